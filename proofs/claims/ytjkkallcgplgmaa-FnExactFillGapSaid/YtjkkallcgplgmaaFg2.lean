/- Contracts of functions of the translated program, by the walk. -/
import Derived.Test.YtjkkallcgplgmaaFg1
set_option linter.unusedVariables false
set_option linter.unusedSimpArgs false
set_option maxRecDepth 8000
set_option maxHeartbeats 4000000
namespace Go.Proofs.Ytjkkallcgplgmaa
open Go Go.Sx
theorem implFillGap_err {H : List Blk} {v : V} {l : List (Nat → Int)} {p : Int} (h : Rd H v (rowL .u16 12) l) (hl : l.length ≤ 1000000) (hc : gapC l p ≠ 0) :
    Cal Try.prog 43 [v, .v (.int .i64 p)] H fun u H' => u = .t [.v (.slice none 0 0), .v (.int .i64 (gapC l p))] ∧ H' = H := by
  have hsol := h.solid
  have hL := h.lenV (P := Try.prog) slTy27
  by_cases e : pageC l p = 0
  · by_cases e3 : p + 1 = l.length
    · have hm : gapC l p = 6 := by unfold gapC; rw [if_pos e, if_pos e3]
      have e4 : (p = (l.length : Int) - 1) = True := eq_true (by omega)
      refine cal_fn 38 mixed Try.func43 Try.ntmps43 Try.results43 rfl rfl rfl fun hw cx hx hq => ?_
      repeat (first | (simp only [go_sem, Int.reduceLT, Int.reduceLE, Int.reduceEq, Int.reduceToNat, hsol, e, hL, e4]) | ((with_reducible refine And.intro ?_ ?_); omega) | ((with_reducible refine isSK ?_); first | (refine call_ret (checkPage h (by omega)) (by simp only [go_sem, Int.reduceLT, Int.reduceLE, Int.reduceEq, Int.reduceToNat, hsol, e, hL, e4]) ?_)) | ((with_reducible refine isMC ?_); first | (refine mcall_ret (checkPage h (by omega)) (by simp only [go_sem, Int.reduceLT, Int.reduceLE, Int.reduceEq, Int.reduceToNat, hsol, e, hL, e4]) (by simp only [go_sem, Int.reduceLT, Int.reduceLE, Int.reduceEq, Int.reduceToNat, hsol, e, hL, e4]) ?_)) | ((with_reducible refine isWKr (id := 8) ?_); refine WK_drawUp 8 [[],[0],[],[2],[],[],[4,5],[4,5,6],[],[],[9],[8,9,10],[8,9,10,11],[0,1,4,5,6,7,8,9,10,11,12],[0,1,4,5,6,7,8,9,10,11,12,13],[0,1,2,3,4,5,6,7,8,9,10,11,12,13,14],[0,1,2,3,4,5,6,7,8,9,10,11,12,13,14,15],[0,1,2,3,4,5,6,7,8,9,10,11,12,13,14,15,16]] 15 (by kernel_rfl) ?_; dsimp only [List.take, List.drop]) | ((with_reducible refine And.intro ?_ ?_); first | (with_reducible rfl) | assumption | (simp only [go_sem]; done)))
      refine ret_same hq _ (.inl rfl) ?_
      simp [go_sem, hm]
    · have e4 : (p = (l.length : Int) - 1) = False := eq_false (by omega)
      by_cases e5 : l.length = 40
      · have hm : gapC l p = 3 := by unfold gapC; rw [if_pos e, if_neg e3, if_pos e5]
        have e6 : ((l.length : Int) = 40) = True := eq_true (by omega)
        refine cal_fn 38 mixed Try.func43 Try.ntmps43 Try.results43 rfl rfl rfl fun hw cx hx hq => ?_
        repeat (first | (simp only [go_sem, Int.reduceLT, Int.reduceLE, Int.reduceEq, Int.reduceToNat, hsol, e, hL, e4, e6]) | ((with_reducible refine And.intro ?_ ?_); omega) | ((with_reducible refine isSK ?_); first | (refine call_ret (checkPage h (by omega)) (by simp only [go_sem, Int.reduceLT, Int.reduceLE, Int.reduceEq, Int.reduceToNat, hsol, e, hL, e4, e6]) ?_)) | ((with_reducible refine isMC ?_); first | (refine mcall_ret (checkPage h (by omega)) (by simp only [go_sem, Int.reduceLT, Int.reduceLE, Int.reduceEq, Int.reduceToNat, hsol, e, hL, e4, e6]) (by simp only [go_sem, Int.reduceLT, Int.reduceLE, Int.reduceEq, Int.reduceToNat, hsol, e, hL, e4, e6]) ?_)) | ((with_reducible refine isWKr (id := 8) ?_); refine WK_drawUp 8 [[],[0],[],[2],[],[],[4,5],[4,5,6],[],[],[9],[8,9,10],[8,9,10,11],[0,1,4,5,6,7,8,9,10,11,12],[0,1,4,5,6,7,8,9,10,11,12,13],[0,1,2,3,4,5,6,7,8,9,10,11,12,13,14],[0,1,2,3,4,5,6,7,8,9,10,11,12,13,14,15],[0,1,2,3,4,5,6,7,8,9,10,11,12,13,14,15,16]] 15 (by kernel_rfl) ?_; dsimp only [List.take, List.drop]) | ((with_reducible refine And.intro ?_ ?_); first | (with_reducible rfl) | assumption | (simp only [go_sem]; done)))
        refine ret_same hq _ (.inl rfl) ?_
        simp [go_sem, hm]
      · exfalso; apply hc; unfold gapC; rw [if_pos e, if_neg e3, if_neg e5]
  · have hm : gapC l p = pageC l p := by unfold gapC; rw [if_neg e]
    refine cal_fn 38 mixed Try.func43 Try.ntmps43 Try.results43 rfl rfl rfl fun hw cx hx hq => ?_
    repeat (first | (simp only [go_sem, Int.reduceLT, Int.reduceLE, Int.reduceEq, Int.reduceToNat, hsol, e]) | ((with_reducible refine And.intro ?_ ?_); omega) | ((with_reducible refine isSK ?_); first | (refine call_ret (checkPage h (by omega)) (by simp only [go_sem, Int.reduceLT, Int.reduceLE, Int.reduceEq, Int.reduceToNat, hsol, e]) ?_)) | ((with_reducible refine isMC ?_); first | (refine mcall_ret (checkPage h (by omega)) (by simp only [go_sem, Int.reduceLT, Int.reduceLE, Int.reduceEq, Int.reduceToNat, hsol, e]) (by simp only [go_sem, Int.reduceLT, Int.reduceLE, Int.reduceEq, Int.reduceToNat, hsol, e]) ?_)) | ((with_reducible refine isWKr (id := 8) ?_); refine WK_drawUp 8 [[],[0],[],[2],[],[],[4,5],[4,5,6],[],[],[9],[8,9,10],[8,9,10,11],[0,1,4,5,6,7,8,9,10,11,12],[0,1,4,5,6,7,8,9,10,11,12,13],[0,1,2,3,4,5,6,7,8,9,10,11,12,13,14],[0,1,2,3,4,5,6,7,8,9,10,11,12,13,14,15],[0,1,2,3,4,5,6,7,8,9,10,11,12,13,14,15,16]] 15 (by kernel_rfl) ?_; dsimp only [List.take, List.drop]) | ((with_reducible refine And.intro ?_ ?_); first | (with_reducible rfl) | assumption | (simp only [go_sem]; done)))
    refine ret_same hq _ (.inl rfl) ?_
    simp [go_sem, hm]
theorem specFillGap_err {H : List Blk} {v : V} {l : List (Nat → Int)} {p : Int} (h : Rd H v (rowL .u16 12) l) (hl : l.length ≤ 1000000) (hc : gapC l p ≠ 0) (hp : -9223372036854775808 ≤ p ∧ p ≤ 9223372036854775807) :
    Cal Try.prog 42 [v, .v (.int .i64 p)] H fun u H' => u = .t [.s H.length 0 0 (.u 0), .v (.int .i64 (gapC l p))] ∧ H' = H ++ [⟨[], 64, .own 12⟩] := by
  have hsol := h.solid
  have hL := h.lenV (P := Try.prog) slTy27
  by_cases e : pageC l p = 0
  · have hpl : 0 ≤ p ∧ p ≤ (l.length : Int) - 1 := by
      unfold pageC at e
      split at e
      · split at e
        · rename_i h2; simpa using h2
        · cases e
      · cases e
    by_cases e3 : p + 1 = l.length
    · have hm : gapC l p = 6 := by unfold gapC; rw [if_pos e, if_pos e3]
      refine cal_fn 47 mixed Try.func42 Try.ntmps42 Try.results42 rfl rfl rfl fun hw cx hx hq => ?_
      repeat (first | (simp only [go_sem, Int.reduceLT, Int.reduceLE, Int.reduceEq, Int.reduceToNat, hsol, e, hL, e3]) | ((with_reducible refine And.intro ?_ ?_); omega) | ((with_reducible refine isSK ?_); first | (refine call_ret (l04Page h (by omega)) (by simp only [go_sem, Int.reduceLT, Int.reduceLE, Int.reduceEq, Int.reduceToNat, hsol, e, hL, e3]) ?_)) | ((with_reducible refine isMC ?_); first | (refine mcall_ret (l04Page h (by omega)) (by simp only [go_sem, Int.reduceLT, Int.reduceLE, Int.reduceEq, Int.reduceToNat, hsol, e, hL, e3]) (by simp only [go_sem, Int.reduceLT, Int.reduceLE, Int.reduceEq, Int.reduceToNat, hsol, e, hL, e3]) ?_)) | ((with_reducible refine isWKr (id := 8) ?_); refine WK_drawUp 8 [[],[],[],[2],[1,2,3],[0,1,2,3,4],[],[],[6,7],[6,7,8],[],[],[11],[10,11,12],[10,11,12,13],[0,1,2,3,4,5,6,7,8,9,10,11,12,13,14],[0,1,2,3,4,5,6,7,8,9,10,11,12,13,14,15],[0,1,2,3,4,5,6,7,8,9,10,11,12,13,14,15,16],[0,1,2,3,4,5,6,7,8,9,10,11,12,13,14,15,16,17]] 5 (by kernel_rfl) ?_; dsimp only [List.take, List.drop]) | ((with_reducible refine And.intro ?_ ?_); first | (with_reducible rfl) | assumption | (simp only [go_sem]; done)))
      refine ret_at hq _ (.inl rfl) (by simp) ?_
      simp [go_sem, hm]
    · by_cases e5 : l.length = 40
      · have hm : gapC l p = 3 := by unfold gapC; rw [if_pos e, if_neg e3, if_pos e5]
        have e6 : ((l.length : Int) = 40) = True := eq_true (by omega)
        refine cal_fn 47 mixed Try.func42 Try.ntmps42 Try.results42 rfl rfl rfl fun hw cx hx hq => ?_
        repeat (first | (simp only [go_sem, Int.reduceLT, Int.reduceLE, Int.reduceEq, Int.reduceToNat, hsol, e, hL, e3, e6]) | ((with_reducible refine And.intro ?_ ?_); omega) | ((with_reducible refine isSK ?_); first | (refine call_ret (l04Page h (by omega)) (by simp only [go_sem, Int.reduceLT, Int.reduceLE, Int.reduceEq, Int.reduceToNat, hsol, e, hL, e3, e6]) ?_)) | ((with_reducible refine isMC ?_); first | (refine mcall_ret (l04Page h (by omega)) (by simp only [go_sem, Int.reduceLT, Int.reduceLE, Int.reduceEq, Int.reduceToNat, hsol, e, hL, e3, e6]) (by simp only [go_sem, Int.reduceLT, Int.reduceLE, Int.reduceEq, Int.reduceToNat, hsol, e, hL, e3, e6]) ?_)) | ((with_reducible refine isWKr (id := 8) ?_); refine WK_drawUp 8 [[],[],[],[2],[1,2,3],[0,1,2,3,4],[],[],[6,7],[6,7,8],[],[],[11],[10,11,12],[10,11,12,13],[0,1,2,3,4,5,6,7,8,9,10,11,12,13,14],[0,1,2,3,4,5,6,7,8,9,10,11,12,13,14,15],[0,1,2,3,4,5,6,7,8,9,10,11,12,13,14,15,16],[0,1,2,3,4,5,6,7,8,9,10,11,12,13,14,15,16,17]] 5 (by kernel_rfl) ?_; dsimp only [List.take, List.drop]) | ((with_reducible refine And.intro ?_ ?_); first | (with_reducible rfl) | assumption | (simp only [go_sem]; done)))
        refine ret_at hq _ (.inl rfl) (by simp) ?_
        simp [go_sem, hm]
      · exfalso; apply hc; unfold gapC; rw [if_pos e, if_neg e3, if_neg e5]
  · have hm : gapC l p = pageC l p := by unfold gapC; rw [if_neg e]
    refine cal_fn 47 mixed Try.func42 Try.ntmps42 Try.results42 rfl rfl rfl fun hw cx hx hq => ?_
    repeat (first | (simp only [go_sem, Int.reduceLT, Int.reduceLE, Int.reduceEq, Int.reduceToNat, hsol, e]) | ((with_reducible refine And.intro ?_ ?_); omega) | ((with_reducible refine isSK ?_); first | (refine call_ret (l04Page h (by omega)) (by simp only [go_sem, Int.reduceLT, Int.reduceLE, Int.reduceEq, Int.reduceToNat, hsol, e]) ?_)) | ((with_reducible refine isMC ?_); first | (refine mcall_ret (l04Page h (by omega)) (by simp only [go_sem, Int.reduceLT, Int.reduceLE, Int.reduceEq, Int.reduceToNat, hsol, e]) (by simp only [go_sem, Int.reduceLT, Int.reduceLE, Int.reduceEq, Int.reduceToNat, hsol, e]) ?_)) | ((with_reducible refine isWKr (id := 8) ?_); refine WK_drawUp 8 [[],[],[],[2],[1,2,3],[0,1,2,3,4],[],[],[6,7],[6,7,8],[],[],[11],[10,11,12],[10,11,12,13],[0,1,2,3,4,5,6,7,8,9,10,11,12,13,14],[0,1,2,3,4,5,6,7,8,9,10,11,12,13,14,15],[0,1,2,3,4,5,6,7,8,9,10,11,12,13,14,15,16],[0,1,2,3,4,5,6,7,8,9,10,11,12,13,14,15,16,17]] 5 (by kernel_rfl) ?_; dsimp only [List.take, List.drop]) | ((with_reducible refine And.intro ?_ ?_); first | (with_reducible rfl) | assumption | (simp only [go_sem]; done)))
    refine ret_at hq _ (.inl rfl) (by simp) ?_
    simp [go_sem, hm]
end Go.Proofs.Ytjkkallcgplgmaa

