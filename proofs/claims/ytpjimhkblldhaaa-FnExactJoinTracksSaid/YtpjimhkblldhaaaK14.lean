/- Contracts of functions of the translated program, by the walk. -/
import Derived.Test.YtpjimhkblldhaaaK13
set_option linter.unusedVariables false
set_option linter.unusedSimpArgs false
set_option maxRecDepth 8000
set_option maxHeartbeats 4000000
namespace Go.Proofs.Ytpjimhkblldhaaa
open Go Go.Sx
theorem shL_len (l : List (Nat → Int)) (t x y : Int) : (shL l t x y).length = l.length := by simp [shL]
theorem validTrack2_ok {H : List Blk} {v : V} {l : List (Nat → Int)} (h : Rd H v encK l) (hK : ∀ a ∈ l, KyW a) (hl : l.length ≤ 1000000) (hv : tkOk l = true) :
    Cal Try.prog 42 [v] H fun u H' => u = .t [v, .v (.int .i64 0)] ∧ H' = H := by
  have hsol := h.solid
  refine cal_fn 7 mixed Try.func42 Try.ntmps42 Try.results42 rfl rfl rfl fun hw cx hx hq => ?_
  repeat (first | (simp only [go_sem, Int.reduceLT, Int.reduceLE, Int.reduceEq, Int.reduceToNat, hsol, hv]) | ((with_reducible refine And.intro ?_ ?_); omega) | ((with_reducible refine isSK ?_); first | (refine call_ret (validTrack h hK hl) (by simp only [go_sem, Int.reduceLT, Int.reduceLE, Int.reduceEq, Int.reduceToNat, hsol, hv]) ?_)) | ((with_reducible refine isMC ?_); first | (refine mcall_ret (validTrack h hK hl) (by simp only [go_sem, Int.reduceLT, Int.reduceLE, Int.reduceEq, Int.reduceToNat, hsol, hv]) (by simp only [go_sem, Int.reduceLT, Int.reduceLE, Int.reduceEq, Int.reduceToNat, hsol, hv]) ?_)) | ((with_reducible refine And.intro ?_ ?_); first | (with_reducible rfl) | assumption | (simp only [go_sem]; done)))
  refine ret_same hq _ (.inl rfl) ?_
  simp [go_sem, hsol]
theorem validTrack2_bad {H : List Blk} {v : V} {l : List (Nat → Int)} (h : Rd H v encK l) (hK : ∀ a ∈ l, KyW a) (hl : l.length ≤ 1000000) (hv : tkOk l = false) :
    Cal Try.prog 42 [v] H fun u H' => u = .t [.v (.slice none 0 0), .v (.int .i64 3)] ∧ H' = H := by
  have hsol := h.solid
  refine cal_fn 7 mixed Try.func42 Try.ntmps42 Try.results42 rfl rfl rfl fun hw cx hx hq => ?_
  repeat (first | (simp only [go_sem, Int.reduceLT, Int.reduceLE, Int.reduceEq, Int.reduceToNat, hsol, hv]) | ((with_reducible refine And.intro ?_ ?_); omega) | ((with_reducible refine isSK ?_); first | (refine call_ret (validTrack h hK hl) (by simp only [go_sem, Int.reduceLT, Int.reduceLE, Int.reduceEq, Int.reduceToNat, hsol, hv]) ?_)) | ((with_reducible refine isMC ?_); first | (refine mcall_ret (validTrack h hK hl) (by simp only [go_sem, Int.reduceLT, Int.reduceLE, Int.reduceEq, Int.reduceToNat, hsol, hv]) (by simp only [go_sem, Int.reduceLT, Int.reduceLE, Int.reduceEq, Int.reduceToNat, hsol, hv]) ?_)) | ((with_reducible refine And.intro ?_ ?_); first | (with_reducible rfl) | assumption | (simp only [go_sem]; done)))
  refine ret_same hq _ (.inl rfl) ?_
  simp [go_sem, hsol]
end Go.Proofs.Ytpjimhkblldhaaa

