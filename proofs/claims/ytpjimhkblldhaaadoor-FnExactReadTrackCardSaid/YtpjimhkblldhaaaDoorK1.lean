/- Contracts of functions of the translated program, by the walk. -/
import Derived.Test.YtpjimhkblldhaaaDoorT1
import Derived.Test.YtpjimhkblldhaaaDoorLD
set_option linter.unusedVariables false
set_option linter.unusedSimpArgs false
set_option maxRecDepth 8000
set_option maxHeartbeats 4000000
namespace Go.Proofs.YtpjimhkblldhaaaDoor
open Go Go.Sx
theorem eqKeySelf {H : List Blk} {a : Nat → Int} : Cal Tryd.prog 45 [.a (encK a), .a (encK a)] H fun v H' => v = .v (.bool true) ∧ H' = H := by
  unfold encK
  refine cal_fn 18 mixed Tryd.func45 Tryd.ntmps45 Tryd.results45 rfl rfl rfl fun hw cx hx hq => ?_
  repeat (first | (simp only [go_sem, Int.reduceLT, Int.reduceLE, Int.reduceEq, Int.reduceToNat]) | ((with_reducible refine And.intro ?_ ?_); omega) | ((with_reducible refine And.intro ?_ ?_); first | (with_reducible rfl) | assumption | (simp only [go_sem]; done)))
  refine ret_cut hq hw _ (.inl rfl) ?_
  simp [go_sem]

theorem eqTrack {H : List Blk} {v v2 : V} {l : List (Nat → Int)} (h : Rd H v encK l) (h2 : Rd H v2 encK l) (hl : l.length ≤ 1000000000) : Cal Tryd.prog 23 [v, v2] H fun u H' => u = .v (.bool true) ∧ H' = H := by
  have hL := h.lenV (P := Tryd.prog) slTy31
  have hL2 := h2.lenV (P := Tryd.prog) slTy31
  refine cal_fn 25 mixed Tryd.func23 Tryd.ntmps23 Tryd.results23 rfl rfl rfl fun hw cx hx hq => ?_
  simp only [go_sem, hL, hL2]
  repeat (refine And.intro (by omega) ?_)
  refine WK_for (fun n : Nat => ⟨[v, v2, .any, .any, .v (.bool false), .v (.int .i64 n)] ++ junk 21, H⟩) (fun n => n ≤ l.length) (fun n => l.length - n) 0 (Weak.slots ?_) ?_ fun n hn => ?_
  · simp [go_sem]
  · simp
  rcases Int.lt_or_le (n : Int) l.length with hc | hc
  · have hj : n < l.length := by omega
    obtain ⟨i, off, c, bl, rfl, hat⟩ := h.row (by omega)
    obtain ⟨i2, off2, c2, bl2, rfl, hat2⟩ := h2.row (by omega)
    have hfit := hat.fits encK 3 encK_len hj (by omega)
    have hfit2 := hat2.fits encK 3 encK_len hj (by omega)
    simp only [go_sem, hc, hat.get, hat.live, hat.elem encK 3 encK_len hj, hat2.get, hat2.live, hat2.elem encK 3 encK_len hj, encK_len]
    repeat (first | (simp only [go_sem, Int.reduceLT, Int.reduceLE, Int.reduceEq, Int.reduceToNat, hat.get, hat.live, hat.elem encK 3 encK_len hj, hat2.get, hat2.live, hat2.elem encK 3 encK_len hj]) | ((with_reducible refine And.intro ?_ ?_); omega) | ((with_reducible refine isSK ?_); first | (refine call_ret (eqKeySelf) (by simp only [go_sem, Int.reduceLT, Int.reduceLE, Int.reduceEq, Int.reduceToNat, hat.get, hat.live, hat.elem encK 3 encK_len hj, hat2.get, hat2.live, hat2.elem encK 3 encK_len hj]) ?_)) | ((with_reducible refine isMC ?_); first | (refine mcall_ret (eqKeySelf) (by simp only [go_sem, Int.reduceLT, Int.reduceLE, Int.reduceEq, Int.reduceToNat, hat.get, hat.live, hat.elem encK 3 encK_len hj, hat2.get, hat2.live, hat2.elem encK 3 encK_len hj]) (by simp only [go_sem, Int.reduceLT, Int.reduceLE, Int.reduceEq, Int.reduceToNat, hat.get, hat.live, hat.elem encK 3 encK_len hj, hat2.get, hat2.live, hat2.elem encK 3 encK_len hj]) ?_)) | ((with_reducible refine isWKr (id := 6) ?_); refine WK_drawUp 6 [[],[],[0,1],[0,1,2],[],[],[4,5],[4,5,6],[0,1,2,3,4,5,6,7],[0,1,2,3,4,5,6,7,8]] 8 (by kernel_rfl) ?_; dsimp only [List.take, List.drop]) | ((with_reducible refine And.intro ?_ ?_); first | (with_reducible rfl) | assumption | (simp only [go_sem]; done)))
    refine EK_again (n + 1) (Weak.slots (by simp [go_sem])) (by omega) (by omega)
  · simp only [go_sem, hL, Int.not_lt.2 hc]
    refine ret_same hq _ (.inl rfl) ?_
    simp only [go_sem]

end Go.Proofs.YtpjimhkblldhaaaDoor


