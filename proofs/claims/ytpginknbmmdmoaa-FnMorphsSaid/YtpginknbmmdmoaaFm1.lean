/- Contracts of functions of the translated program, by the walk. -/
import Derived.Test.YtpginknbmmdmoaaUm1
import Derived.Test.YtpginknbmmdmoaaC1
import Derived.Test.YtpginknbmmdmoaaLD
import Derived.Test.YtpginknbmmdmoaaR1g
import Derived.Test.YtpginknbmmdmoaaR1f
import Derived.Test.YtpginknbmmdmoaaDr1
set_option linter.unusedVariables false
set_option linter.unusedSimpArgs false
set_option maxRecDepth 8000
set_option maxHeartbeats 4000000
namespace Go.Proofs.Ytpginknbmmdmoaa
open Go Go.Sx
open Go.RowKit
theorem l02Same {H : List Blk} {v v2 : V} {l : List (Nat → Int)} (h : Rd H v (rowL .u16 12) l) (h2 : Rd H v2 (rowL .u16 12) l) (hl : l.length ≤ 1000000000) : Cal Try.prog 124 [v, v2] H fun u H' => u = .v (.bool true) ∧ H' = H := by
  have hsol := h.solid
  have hsol2 := h2.solid
  have hL := h.lenV (P := Try.prog) slTy53
  have hL2 := h2.lenV (P := Try.prog) slTy53
  refine cal_fn 24 mixed Try.func124 Try.ntmps124 Try.results124 rfl rfl rfl fun hw cx hx hq => ?_
  repeat (first | (simp only [go_sem, Int.reduceLT, Int.reduceLE, Int.reduceEq, Int.reduceToNat, hsol, hsol2, hL, hL2]) | ((with_reducible refine And.intro ?_ ?_); omega) | ((with_reducible refine isWKr (id := 6) ?_); refine WK_drawAt 6 [[],[],[0,1],[0,1,2],[],[],[4,5],[4,5,6],[0,1,2,3,4,5,6,7]] (by kernel_rfl) ?_) | ((with_reducible refine And.intro ?_ ?_); first | (with_reducible rfl) | assumption | (simp only [go_sem]; done)))
  refine WK_for (fun n : Nat => ⟨[v, v2, .any, .any, .any, .v (.int .i64 n)] ++ junk 20, H⟩) (fun n => n ≤ l.length) (fun n => l.length - n) 0 (Weak.slots ?_) ?_ fun n hn => ?_
  · simp [go_sem]
  · simp
  rcases Int.lt_or_le (n : Int) l.length with hc | hc
  · have hj : n < l.length := by omega
    obtain ⟨i, off, c, bl, rfl, hat⟩ := h.row (by omega)
    obtain ⟨i2, off2, c2, bl2, rfl, hat2⟩ := h2.row (by omega)
    have hfit := hat.fits (rowL .u16 12) 12 (fun _ => rowL_length ..) hj (by omega)
    have hfit2 := hat2.fits (rowL .u16 12) 12 (fun _ => rowL_length ..) hj (by omega)
    have e1 := hat.elem (rowL .u16 12) 12 hz12 hj
    have e2 := hat2.elem (rowL .u16 12) 12 hz12 hj
    repeat (first | (simp only [go_sem, Int.reduceLT, Int.reduceLE, Int.reduceEq, Int.reduceToNat, hL, hL2, hc, hat.lt, hat.get, hat.live, e1, hat2.lt, hat2.get, hat2.live, e2, allEq_self]) | ((with_reducible refine And.intro ?_ ?_); omega) | ((with_reducible refine isWKr (id := 6) ?_); refine WK_drawAt 6 [[],[],[0,1],[0,1,2],[],[],[4,5],[4,5,6],[0,1,2,3,4,5,6,7]] (by kernel_rfl) ?_) | ((with_reducible refine And.intro ?_ ?_); first | (with_reducible rfl) | assumption | (simp only [go_sem]; done)))
    refine EK_again (n + 1) (Weak.slots (by simp [go_sem])) (by omega) (by omega)
  · repeat (first | (simp only [go_sem, Int.reduceLT, Int.reduceLE, Int.reduceEq, Int.reduceToNat, hL, Int.not_lt.2 hc]) | ((with_reducible refine And.intro ?_ ?_); omega) | ((with_reducible refine isWKr (id := 6) ?_); refine WK_drawAt 6 [[],[],[0,1],[0,1,2],[],[],[4,5],[4,5,6],[0,1,2,3,4,5,6,7]] (by kernel_rfl) ?_) | ((with_reducible refine And.intro ?_ ?_); first | (with_reducible rfl) | assumption | (simp only [go_sem]; done)))
    refine ret_same hq _ (.inl rfl) ?_
    simp [go_sem]
theorem sameBook {H : List Blk} {v v2 : V} {l : List (Nat → Int)} (h : Rd H v (rowL .u16 12) l) (h2 : Rd H v2 (rowL .u16 12) l) (hl : l.length ≤ 1000000000) : Cal Try.prog 60 [v, v2] H fun u H' => u = .v (.bool true) ∧ H' = H := by
  have hsol := h.solid
  have hsol2 := h2.solid
  refine cal_fn 6 mixed Try.func60 Try.ntmps60 Try.results60 rfl rfl rfl fun hw cx hx hq => ?_
  repeat (first | (simp only [go_sem, Int.reduceLT, Int.reduceLE, Int.reduceEq, Int.reduceToNat, hsol, hsol2]) | ((with_reducible refine And.intro ?_ ?_); omega) | ((with_reducible refine isSK ?_); first | (refine call_ret (l02Same h h2 hl) (by simp only [go_sem, Int.reduceLT, Int.reduceLE, Int.reduceEq, Int.reduceToNat, hsol, hsol2]) ?_)) | ((with_reducible refine isMC ?_); first | (refine mcall_ret (l02Same h h2 hl) (by simp only [go_sem, Int.reduceLT, Int.reduceLE, Int.reduceEq, Int.reduceToNat, hsol, hsol2]) (by simp only [go_sem, Int.reduceLT, Int.reduceLE, Int.reduceEq, Int.reduceToNat, hsol, hsol2]) ?_)) | ((with_reducible refine And.intro ?_ ?_); first | (with_reducible rfl) | assumption | (simp only [go_sem]; done)))
  refine ret_same hq _ (.inl rfl) ?_
  simp [go_sem]
end Go.Proofs.Ytpginknbmmdmoaa

