/- Contracts of functions of the translated program, by the walk. -/
import Derived.Test.YtpjimhkblldhaaaK4
set_option linter.unusedVariables false
set_option linter.unusedSimpArgs false
set_option maxRecDepth 8000
set_option maxHeartbeats 4000000
namespace Go.Proofs.Ytpjimhkblldhaaa
open Go Go.Sx
theorem easeOf {H : List Blk} {e s t : Int} (h0 : 0 ≤ s) (h : s ≤ t) (ht : 1 ≤ t) (hm : t ≤ 1000) :
    Cal Try.prog 69 [.v (.int .i64 e), .v (.int .i64 s), .v (.int .i64 t)] H fun u H' => u = .v (.int .i64 (shareR e s t)) ∧ H' = H := by
  have q1 := sq_le h0 h
  have q2 := sq_le (a := t) (b := 1000) (by omega) (by omega)
  have q3 := sq_le (a := t - s) (b := t) (by omega) (by omega)
  have q4 : 2 * s * s = 2 * (s * s) := Int.mul_assoc ..
  have q5 : 2 * (t - s) * (t - s) = 2 * ((t - s) * (t - s)) := Int.mul_assoc ..
  have hp : 0 < t * t := Int.mul_pos (by omega) (by omega)
  have hne : (t * t = 0) = False := eq_false (by omega)
  have hne2 : (t = 0) = False := eq_false (by omega)
  have r := shareR_range (e := e) h0 h ht
  refine cal_fn 58 mixed Try.func69 Try.ntmps69 Try.results69 rfl rfl rfl fun hw cx hx hq => ?_
  by_cases e0 : e = 0
  · have hr : shareR e s t = (s * 1000).tdiv t := by unfold shareR; rw [if_pos e0]
    rw [hr] at r
    have b0 : (e = 0) = True := eq_true e0
    repeat (first | (simp only [go_sem, Int.reduceLT, Int.reduceLE, Int.reduceEq, Int.reduceToNat, b0, hne, hne2]) | ((with_reducible refine And.intro ?_ ?_); omega) | ((with_reducible refine And.intro ?_ ?_); first | (with_reducible rfl) | assumption | (simp only [go_sem]; done)))
    refine ret_same hq _ (.inl rfl) ?_
    simp [go_sem, hr]
  have b0 : (e = 0) = False := eq_false e0
  by_cases e1 : e = 1
  · have hr : shareR e s t = (s * s * 1000).tdiv (t * t) := by unfold shareR; rw [if_neg e0, if_pos e1]
    rw [hr] at r
    have b1 : (e = 1) = True := eq_true e1
    repeat (first | (simp only [go_sem, Int.reduceLT, Int.reduceLE, Int.reduceEq, Int.reduceToNat, b0, b1, hne, hne2]) | ((with_reducible refine And.intro ?_ ?_); omega) | ((with_reducible refine And.intro ?_ ?_); first | (with_reducible rfl) | assumption | (simp only [go_sem]; done)))
    refine ret_same hq _ (.inl rfl) ?_
    simp [go_sem, hr]
  have b1 : (e = 1) = False := eq_false e1
  by_cases e2 : e = 2
  · have hr : shareR e s t = 1000 - ((t - s) * (t - s) * 1000).tdiv (t * t) := by unfold shareR; rw [if_neg e0, if_neg e1, if_pos e2]
    rw [hr] at r
    have b2 : (e = 2) = True := eq_true e2
    repeat (first | (simp only [go_sem, Int.reduceLT, Int.reduceLE, Int.reduceEq, Int.reduceToNat, b0, b1, b2, hne, hne2]) | ((with_reducible refine And.intro ?_ ?_); omega) | ((with_reducible refine And.intro ?_ ?_); first | (with_reducible rfl) | assumption | (simp only [go_sem]; done)))
    refine ret_same hq _ (.inl rfl) ?_
    simp [go_sem, hr]
  have b2 : (e = 2) = False := eq_false e2
  by_cases e3 : 2 * s < t
  · have hr : shareR e s t = (2 * s * s * 1000).tdiv (t * t) := by unfold shareR; rw [if_neg e0, if_neg e1, if_neg e2, if_pos e3]
    rw [hr] at r
    have b3 : (2 * s < t) = True := eq_true e3
    repeat (first | (simp only [go_sem, Int.reduceLT, Int.reduceLE, Int.reduceEq, Int.reduceToNat, b0, b1, b2, b3, hne, hne2]) | ((with_reducible refine And.intro ?_ ?_); omega) | ((with_reducible refine And.intro ?_ ?_); first | (with_reducible rfl) | assumption | (simp only [go_sem]; done)))
    refine ret_same hq _ (.inl rfl) ?_
    simp [go_sem, hr]
  · have hr : shareR e s t = 1000 - (2 * (t - s) * (t - s) * 1000).tdiv (t * t) := by unfold shareR; rw [if_neg e0, if_neg e1, if_neg e2, if_neg e3]
    rw [hr] at r
    have b3 : (2 * s < t) = False := eq_false e3
    repeat (first | (simp only [go_sem, Int.reduceLT, Int.reduceLE, Int.reduceEq, Int.reduceToNat, b0, b1, b2, b3, hne, hne2]) | ((with_reducible refine And.intro ?_ ?_); omega) | ((with_reducible refine And.intro ?_ ?_); first | (with_reducible rfl) | assumption | (simp only [go_sem]; done)))
    refine ret_same hq _ (.inl rfl) ?_
    simp [go_sem, hr]

theorem l03Share {H : List Blk} {e s t : Int} (h0 : 0 ≤ s) (h : s ≤ t) (ht : 1 ≤ t) (hm : t ≤ 1000) :
    Cal Try.prog 67 [.v (.int .i64 e), .v (.int .i64 s), .v (.int .i64 t)] H fun u H' => u = .v (.int .i64 (shareR e s t)) ∧ H' = H := by
  have q1 := sq_le h0 h
  have q2 := sq_le (a := t) (b := 1000) (by omega) (by omega)
  have q3 := sq_le (a := t - s) (b := t) (by omega) (by omega)
  have q4 : 2 * s * s = 2 * (s * s) := Int.mul_assoc ..
  have q5 : 2 * (t - s) * (t - s) = 2 * ((t - s) * (t - s)) := Int.mul_assoc ..
  have hp : 0 < t * t := Int.mul_pos (by omega) (by omega)
  have hne : (t * t = 0) = False := eq_false (by omega)
  have hne2 : (t = 0) = False := eq_false (by omega)
  have r := shareR_range (e := e) h0 h ht
  refine cal_fn 55 mixed Try.func67 Try.ntmps67 Try.results67 rfl rfl rfl fun hw cx hx hq => ?_
  by_cases e0 : e = 0
  · have hr : shareR e s t = (s * 1000).tdiv t := by unfold shareR; rw [if_pos e0]
    rw [hr] at r
    have b0 : (e = 0) = True := eq_true e0
    repeat (first | (simp only [go_sem, Int.reduceLT, Int.reduceLE, Int.reduceEq, Int.reduceToNat, b0, hne, hne2]) | ((with_reducible refine And.intro ?_ ?_); omega) | ((with_reducible refine And.intro ?_ ?_); first | (with_reducible rfl) | assumption | (simp only [go_sem]; done)))
    refine ret_same hq _ (.inl rfl) ?_
    simp [go_sem, hr]
  have b0 : (e = 0) = False := eq_false e0
  by_cases e1 : e = 1
  · have hr : shareR e s t = (s * s * 1000).tdiv (t * t) := by unfold shareR; rw [if_neg e0, if_pos e1]
    rw [hr] at r
    have b1 : (e = 1) = True := eq_true e1
    repeat (first | (simp only [go_sem, Int.reduceLT, Int.reduceLE, Int.reduceEq, Int.reduceToNat, b0, b1, hne, hne2]) | ((with_reducible refine And.intro ?_ ?_); omega) | ((with_reducible refine And.intro ?_ ?_); first | (with_reducible rfl) | assumption | (simp only [go_sem]; done)))
    refine ret_same hq _ (.inl rfl) ?_
    simp [go_sem, hr]
  have b1 : (e = 1) = False := eq_false e1
  by_cases e2 : e = 2
  · have hr : shareR e s t = 1000 - ((t - s) * (t - s) * 1000).tdiv (t * t) := by unfold shareR; rw [if_neg e0, if_neg e1, if_pos e2]
    rw [hr] at r
    have b2 : (e = 2) = True := eq_true e2
    repeat (first | (simp only [go_sem, Int.reduceLT, Int.reduceLE, Int.reduceEq, Int.reduceToNat, b0, b1, b2, hne, hne2]) | ((with_reducible refine And.intro ?_ ?_); omega) | ((with_reducible refine And.intro ?_ ?_); first | (with_reducible rfl) | assumption | (simp only [go_sem]; done)))
    refine ret_same hq _ (.inl rfl) ?_
    simp [go_sem, hr]
  have b2 : (e = 2) = False := eq_false e2
  by_cases e3 : 2 * s < t
  · have hr : shareR e s t = (2 * s * s * 1000).tdiv (t * t) := by unfold shareR; rw [if_neg e0, if_neg e1, if_neg e2, if_pos e3]
    rw [hr] at r
    have b3 : (2 * s < t) = True := eq_true e3
    repeat (first | (simp only [go_sem, Int.reduceLT, Int.reduceLE, Int.reduceEq, Int.reduceToNat, b0, b1, b2, b3, hne, hne2]) | ((with_reducible refine And.intro ?_ ?_); omega) | ((with_reducible refine And.intro ?_ ?_); first | (with_reducible rfl) | assumption | (simp only [go_sem]; done)))
    refine ret_same hq _ (.inl rfl) ?_
    simp [go_sem, hr]
  · have hr : shareR e s t = 1000 - (2 * (t - s) * (t - s) * 1000).tdiv (t * t) := by unfold shareR; rw [if_neg e0, if_neg e1, if_neg e2, if_neg e3]
    rw [hr] at r
    have b3 : (2 * s < t) = False := eq_false e3
    repeat (first | (simp only [go_sem, Int.reduceLT, Int.reduceLE, Int.reduceEq, Int.reduceToNat, b0, b1, b2, b3, hne, hne2]) | ((with_reducible refine And.intro ?_ ?_); omega) | ((with_reducible refine And.intro ?_ ?_); first | (with_reducible rfl) | assumption | (simp only [go_sem]; done)))
    refine ret_same hq _ (.inl rfl) ?_
    simp [go_sem, hr]

theorem l00Max {H : List Blk} {a b : Int} : Cal Try.prog 73 [.v (.int .i64 a), .v (.int .i64 b)] H fun u H' => u = .v (.int .i64 (max a b)) ∧ H' = H := by
  refine cal_fn 8 mixed Try.func73 Try.ntmps73 Try.results73 rfl rfl rfl fun hw cx hx hq => ?_
  by_cases e : b < a
  · have b0 : (b < a) = True := eq_true e
    repeat (first | (simp only [go_sem, Int.reduceLT, Int.reduceLE, Int.reduceEq, Int.reduceToNat, b0]) | ((with_reducible refine And.intro ?_ ?_); omega) | ((with_reducible refine And.intro ?_ ?_); first | (with_reducible rfl) | assumption | (simp only [go_sem]; done)))
    refine ret_same hq _ (.inl rfl) ?_
    simp [go_sem]; omega
  · have b0 : (b < a) = False := eq_false e
    repeat (first | (simp only [go_sem, Int.reduceLT, Int.reduceLE, Int.reduceEq, Int.reduceToNat, b0]) | ((with_reducible refine And.intro ?_ ?_); omega) | ((with_reducible refine And.intro ?_ ?_); first | (with_reducible rfl) | assumption | (simp only [go_sem]; done)))
    refine ret_same hq _ (.inl rfl) ?_
    simp [go_sem]; omega
theorem l03Size {H : List Blk} {n : Int} (hn : -9223372036854775807 ≤ n ∧ n ≤ 9223372036854775807) : Cal Try.prog 70 [.v (.int .i64 n)] H fun u H' => u = .v (.int .i64 (max n (-n))) ∧ H' = H := by
  refine cal_fn 6 mixed Try.func70 Try.ntmps70 Try.results70 rfl rfl rfl fun hw cx hx hq => ?_
  repeat (first | (simp only [go_sem, Int.reduceLT, Int.reduceLE, Int.reduceEq, Int.reduceToNat]) | ((with_reducible refine And.intro ?_ ?_); omega) | ((with_reducible refine isSK ?_); first | (refine call_ret (l00Max) (by simp only [go_sem, Int.reduceLT, Int.reduceLE, Int.reduceEq, Int.reduceToNat]) ?_)) | ((with_reducible refine isMC ?_); first | (refine mcall_ret (l00Max) (by simp only [go_sem, Int.reduceLT, Int.reduceLE, Int.reduceEq, Int.reduceToNat]) (by simp only [go_sem, Int.reduceLT, Int.reduceLE, Int.reduceEq, Int.reduceToNat]) ?_)) | ((with_reducible refine And.intro ?_ ?_); first | (with_reducible rfl) | assumption | (simp only [go_sem]; done)))
  refine ret_same hq _ (.inl rfl) ?_
  simp [go_sem]

theorem between {H : List Blk} {a b s : Int} (h0 : 0 ≤ s) (h : s ≤ 1000) (ha : -1000 ≤ a ∧ a ≤ 1000) (hb : -1000 ≤ b ∧ b ≤ 1000) :
    Cal Try.prog 55 [.v (.int .i64 a), .v (.int .i64 b), .v (.int .i64 s)] H fun u H' => u = .v (.int .i64 (betweenR a b s)) ∧ H' = H := by
  have r := betweenR_range (a := a) (b := b) h0 h ha hb
  refine cal_fn 25 mixed Try.func55 Try.ntmps55 Try.results55 rfl rfl rfl fun hw cx hx hq => ?_
  by_cases e : b < a
  · have b0 : (b < a) = True := eq_true e
    have m := mul_share (d := a - b) (by omega) h0 h
    have hz : max (b - a) (-(b - a)) = a - b := by omega
    have hr : betweenR a b s = a - ((a - b) * s + 500).tdiv 1000 := by unfold betweenR; rw [if_pos e]
    rw [hr] at r
    repeat (first | (simp only [go_sem, Int.reduceLT, Int.reduceLE, Int.reduceEq, Int.reduceToNat, b0, hz]) | ((with_reducible refine And.intro ?_ ?_); omega) | ((with_reducible refine And.intro ?_ ?_); first | (with_reducible rfl) | assumption | (simp only [go_sem]; done)))
    refine ret_same hq _ (.inl rfl) ?_
    simp [go_sem, hr]
  · have b0 : (b < a) = False := eq_false e
    have m := mul_share (d := b - a) (by omega) h0 h
    have hz : max (b - a) (-(b - a)) = b - a := by omega
    have hr : betweenR a b s = a + ((b - a) * s + 500).tdiv 1000 := by unfold betweenR; rw [if_neg e]
    rw [hr] at r
    repeat (first | (simp only [go_sem, Int.reduceLT, Int.reduceLE, Int.reduceEq, Int.reduceToNat, b0, hz]) | ((with_reducible refine And.intro ?_ ?_); omega) | ((with_reducible refine And.intro ?_ ?_); first | (with_reducible rfl) | assumption | (simp only [go_sem]; done)))
    refine ret_same hq _ (.inl rfl) ?_
    simp [go_sem, hr]

theorem l03Between {H : List Blk} {a b s : Int} (h0 : 0 ≤ s) (h : s ≤ 1000) (ha : -1000 ≤ a ∧ a ≤ 1000) (hb : -1000 ≤ b ∧ b ≤ 1000) :
    Cal Try.prog 53 [.v (.int .i64 a), .v (.int .i64 b), .v (.int .i64 s)] H fun u H' => u = .v (.int .i64 (betweenR a b s)) ∧ H' = H := by
  have r := betweenR_range (a := a) (b := b) h0 h ha hb
  refine cal_fn 22 mixed Try.func53 Try.ntmps53 Try.results53 rfl rfl rfl fun hw cx hx hq => ?_
  by_cases e : b < a
  · have b0 : (b < a) = True := eq_true e
    have m := mul_share (d := a - b) (by omega) h0 h
    have hz : max (b - a) (-(b - a)) = a - b := by omega
    have hr : betweenR a b s = a - ((a - b) * s + 500).tdiv 1000 := by unfold betweenR; rw [if_pos e]
    rw [hr] at r
    repeat (first | (simp only [go_sem, Int.reduceLT, Int.reduceLE, Int.reduceEq, Int.reduceToNat, b0, hz]) | ((with_reducible refine And.intro ?_ ?_); omega) | ((with_reducible refine isSK ?_); first | (refine call_ret (l03Size (by omega)) (by simp only [go_sem, Int.reduceLT, Int.reduceLE, Int.reduceEq, Int.reduceToNat, b0, hz]) ?_)) | ((with_reducible refine isMC ?_); first | (refine mcall_ret (l03Size (by omega)) (by simp only [go_sem, Int.reduceLT, Int.reduceLE, Int.reduceEq, Int.reduceToNat, b0, hz]) (by simp only [go_sem, Int.reduceLT, Int.reduceLE, Int.reduceEq, Int.reduceToNat, b0, hz]) ?_)) | ((with_reducible refine And.intro ?_ ?_); first | (with_reducible rfl) | assumption | (simp only [go_sem]; done)))
    refine ret_same hq _ (.inl rfl) ?_
    simp [go_sem, hr]
  · have b0 : (b < a) = False := eq_false e
    have m := mul_share (d := b - a) (by omega) h0 h
    have hz : max (b - a) (-(b - a)) = b - a := by omega
    have hr : betweenR a b s = a + ((b - a) * s + 500).tdiv 1000 := by unfold betweenR; rw [if_neg e]
    rw [hr] at r
    repeat (first | (simp only [go_sem, Int.reduceLT, Int.reduceLE, Int.reduceEq, Int.reduceToNat, b0, hz]) | ((with_reducible refine And.intro ?_ ?_); omega) | ((with_reducible refine isSK ?_); first | (refine call_ret (l03Size (by omega)) (by simp only [go_sem, Int.reduceLT, Int.reduceLE, Int.reduceEq, Int.reduceToNat, b0, hz]) ?_)) | ((with_reducible refine isMC ?_); first | (refine mcall_ret (l03Size (by omega)) (by simp only [go_sem, Int.reduceLT, Int.reduceLE, Int.reduceEq, Int.reduceToNat, b0, hz]) (by simp only [go_sem, Int.reduceLT, Int.reduceLE, Int.reduceEq, Int.reduceToNat, b0, hz]) ?_)) | ((with_reducible refine And.intro ?_ ?_); first | (with_reducible rfl) | assumption | (simp only [go_sem]; done)))
    refine ret_same hq _ (.inl rfl) ?_
    simp [go_sem, hr]

end Go.Proofs.Ytpjimhkblldhaaa

