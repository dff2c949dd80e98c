/- Contracts of functions of the translated program, by the walk. -/
import Derived.Test.YtpjimhkblldhaaaK4
set_option linter.unusedVariables false
set_option linter.unusedSimpArgs false
set_option maxRecDepth 8000
set_option maxHeartbeats 4000000
namespace Go.Proofs.Ytpjimhkblldhaaa
open Go Go.Sx
theorem l00Max {H : List Blk} {a b : Int} : Cal Try.prog 73 [.v (.int .i64 a), .v (.int .i64 b)] H fun u H' => u = .v (.int .i64 (max a b)) ∧ H' = H := by
  refine cal_fn 8 mixed Try.func73 Try.ntmps73 Try.results73 rfl rfl rfl fun hw cx hx hq => ?_
  by_cases e : b < a
  · have b0 : (b < a) = True := eq_true e
    repeat (first | (simp only [go_sem, Int.reduceLT, Int.reduceLE, Int.reduceEq, Int.reduceToNat, b0]) | ((with_reducible refine And.intro ?_ ?_); omega) | ((with_reducible refine And.intro ?_ ?_); first | (with_reducible rfl) | assumption | (simp only [go_sem]; done)))
    refine ret_same hq _ (.inl rfl) ?_
    simp [go_sem]; omega
  · have b0 : (b < a) = False := eq_false e
    repeat (first | (simp only [go_sem, Int.reduceLT, Int.reduceLE, Int.reduceEq, Int.reduceToNat, b0]) | ((with_reducible refine And.intro ?_ ?_); omega) | ((with_reducible refine And.intro ?_ ?_); first | (with_reducible rfl) | assumption | (simp only [go_sem]; done)))
    refine ret_same hq _ (.inl rfl) ?_
    simp [go_sem]; omega
theorem l03Size {H : List Blk} {n : Int} (hn : -9223372036854775807 ≤ n ∧ n ≤ 9223372036854775807) : Cal Try.prog 70 [.v (.int .i64 n)] H fun u H' => u = .v (.int .i64 (max n (-n))) ∧ H' = H := by
  refine cal_fn 6 mixed Try.func70 Try.ntmps70 Try.results70 rfl rfl rfl fun hw cx hx hq => ?_
  repeat (first | (simp only [go_sem, Int.reduceLT, Int.reduceLE, Int.reduceEq, Int.reduceToNat]) | ((with_reducible refine And.intro ?_ ?_); omega) | ((with_reducible refine isSK ?_); first | (refine call_ret (l00Max) (by simp only [go_sem, Int.reduceLT, Int.reduceLE, Int.reduceEq, Int.reduceToNat]) ?_)) | ((with_reducible refine isMC ?_); first | (refine mcall_ret (l00Max) (by simp only [go_sem, Int.reduceLT, Int.reduceLE, Int.reduceEq, Int.reduceToNat]) (by simp only [go_sem, Int.reduceLT, Int.reduceLE, Int.reduceEq, Int.reduceToNat]) ?_)) | ((with_reducible refine And.intro ?_ ?_); first | (with_reducible rfl) | assumption | (simp only [go_sem]; done)))
  refine ret_same hq _ (.inl rfl) ?_
  simp [go_sem]

theorem between {H : List Blk} {a b s : Int} (h0 : 0 ≤ s) (h : s ≤ 1000) (ha : -1000 ≤ a ∧ a ≤ 1000) (hb : -1000 ≤ b ∧ b ≤ 1000) :
    Cal Try.prog 55 [.v (.int .i64 a), .v (.int .i64 b), .v (.int .i64 s)] H fun u H' => u = .v (.int .i64 (betweenR a b s)) ∧ H' = H := by
  have r := betweenR_range (a := a) (b := b) h0 h ha hb
  refine cal_fn 25 mixed Try.func55 Try.ntmps55 Try.results55 rfl rfl rfl fun hw cx hx hq => ?_
  by_cases e : b < a
  · have b0 : (b < a) = True := eq_true e
    have m := mul_share (d := a - b) (by omega) h0 h
    have hz : max (b - a) (-(b - a)) = a - b := by omega
    have hr : betweenR a b s = a - ((a - b) * s + 500).tdiv 1000 := by unfold betweenR; rw [if_pos e]
    rw [hr] at r
    repeat (first | (simp only [go_sem, Int.reduceLT, Int.reduceLE, Int.reduceEq, Int.reduceToNat, b0, hz]) | ((with_reducible refine And.intro ?_ ?_); omega) | ((with_reducible refine And.intro ?_ ?_); first | (with_reducible rfl) | assumption | (simp only [go_sem]; done)))
    refine ret_same hq _ (.inl rfl) ?_
    simp [go_sem, hr]
  · have b0 : (b < a) = False := eq_false e
    have m := mul_share (d := b - a) (by omega) h0 h
    have hz : max (b - a) (-(b - a)) = b - a := by omega
    have hr : betweenR a b s = a + ((b - a) * s + 500).tdiv 1000 := by unfold betweenR; rw [if_neg e]
    rw [hr] at r
    repeat (first | (simp only [go_sem, Int.reduceLT, Int.reduceLE, Int.reduceEq, Int.reduceToNat, b0, hz]) | ((with_reducible refine And.intro ?_ ?_); omega) | ((with_reducible refine And.intro ?_ ?_); first | (with_reducible rfl) | assumption | (simp only [go_sem]; done)))
    refine ret_same hq _ (.inl rfl) ?_
    simp [go_sem, hr]

theorem l03Between {H : List Blk} {a b s : Int} (h0 : 0 ≤ s) (h : s ≤ 1000) (ha : -1000 ≤ a ∧ a ≤ 1000) (hb : -1000 ≤ b ∧ b ≤ 1000) :
    Cal Try.prog 53 [.v (.int .i64 a), .v (.int .i64 b), .v (.int .i64 s)] H fun u H' => u = .v (.int .i64 (betweenR a b s)) ∧ H' = H := by
  have r := betweenR_range (a := a) (b := b) h0 h ha hb
  refine cal_fn 22 mixed Try.func53 Try.ntmps53 Try.results53 rfl rfl rfl fun hw cx hx hq => ?_
  by_cases e : b < a
  · have b0 : (b < a) = True := eq_true e
    have m := mul_share (d := a - b) (by omega) h0 h
    have hz : max (b - a) (-(b - a)) = a - b := by omega
    have hr : betweenR a b s = a - ((a - b) * s + 500).tdiv 1000 := by unfold betweenR; rw [if_pos e]
    rw [hr] at r
    repeat (first | (simp only [go_sem, Int.reduceLT, Int.reduceLE, Int.reduceEq, Int.reduceToNat, b0, hz]) | ((with_reducible refine And.intro ?_ ?_); omega) | ((with_reducible refine isSK ?_); first | (refine call_ret (l03Size (by omega)) (by simp only [go_sem, Int.reduceLT, Int.reduceLE, Int.reduceEq, Int.reduceToNat, b0, hz]) ?_)) | ((with_reducible refine isMC ?_); first | (refine mcall_ret (l03Size (by omega)) (by simp only [go_sem, Int.reduceLT, Int.reduceLE, Int.reduceEq, Int.reduceToNat, b0, hz]) (by simp only [go_sem, Int.reduceLT, Int.reduceLE, Int.reduceEq, Int.reduceToNat, b0, hz]) ?_)) | ((with_reducible refine And.intro ?_ ?_); first | (with_reducible rfl) | assumption | (simp only [go_sem]; done)))
    refine ret_same hq _ (.inl rfl) ?_
    simp [go_sem, hr]
  · have b0 : (b < a) = False := eq_false e
    have m := mul_share (d := b - a) (by omega) h0 h
    have hz : max (b - a) (-(b - a)) = b - a := by omega
    have hr : betweenR a b s = a + ((b - a) * s + 500).tdiv 1000 := by unfold betweenR; rw [if_neg e]
    rw [hr] at r
    repeat (first | (simp only [go_sem, Int.reduceLT, Int.reduceLE, Int.reduceEq, Int.reduceToNat, b0, hz]) | ((with_reducible refine And.intro ?_ ?_); omega) | ((with_reducible refine isSK ?_); first | (refine call_ret (l03Size (by omega)) (by simp only [go_sem, Int.reduceLT, Int.reduceLE, Int.reduceEq, Int.reduceToNat, b0, hz]) ?_)) | ((with_reducible refine isMC ?_); first | (refine mcall_ret (l03Size (by omega)) (by simp only [go_sem, Int.reduceLT, Int.reduceLE, Int.reduceEq, Int.reduceToNat, b0, hz]) (by simp only [go_sem, Int.reduceLT, Int.reduceLE, Int.reduceEq, Int.reduceToNat, b0, hz]) ?_)) | ((with_reducible refine And.intro ?_ ?_); first | (with_reducible rfl) | assumption | (simp only [go_sem]; done)))
    refine ret_same hq _ (.inl rfl) ?_
    simp [go_sem, hr]

end Go.Proofs.Ytpjimhkblldhaaa

