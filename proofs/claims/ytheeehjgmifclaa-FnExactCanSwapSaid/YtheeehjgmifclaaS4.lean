/- Contracts of functions of the translated program, by the walk. -/
import Derived.Test.YtheeehjgmifclaaS2
set_option linter.unusedVariables false
set_option linter.unusedSimpArgs false
set_option maxRecDepth 8000
set_option maxHeartbeats 4000000
namespace Go.Proofs.Ytheeehjgmifclaa
open Go Go.Sx
def camB (x y : Int) : Bool := (decide (-100 ≤ x) && decide (x ≤ 100)) && (decide (-100 ≤ y) && decide (y ≤ 100))
theorem camB_iff {x y : Int} : camB x y = true ↔ (-100 ≤ x ∧ x ≤ 100) ∧ (-100 ≤ y ∧ y ≤ 100) := by simp [camB]
theorem isCamera {H : List Blk} {x y : Int} : Cal Try.prog 115 [.v (.int .i64 x), .v (.int .i64 y)] H fun v H' => v = .v (.bool (camB x y)) ∧ H' = H := by
  refine cal_fn 9 mixed Try.func115 Try.ntmps115 Try.results115 rfl rfl rfl fun hw cx hx hq => ?_
  cases e : (decide (-100 ≤ x) && decide (x ≤ 100))
  · repeat (first | (simp only [go_sem, Int.reduceLT, Int.reduceLE, Int.reduceEq, Int.reduceToNat, e]) | ((with_reducible refine And.intro ?_ ?_); omega) | ((with_reducible refine isSK ?_); first | (refine call_ret (inRange) (by simp only [go_sem, Int.reduceLT, Int.reduceLE, Int.reduceEq, Int.reduceToNat, e]) ?_)) | ((with_reducible refine isMC ?_); first | (refine mcall_ret (inRange) (by simp only [go_sem, Int.reduceLT, Int.reduceLE, Int.reduceEq, Int.reduceToNat, e]) (by simp only [go_sem, Int.reduceLT, Int.reduceLE, Int.reduceEq, Int.reduceToNat, e]) ?_)) | ((with_reducible refine And.intro ?_ ?_); first | (with_reducible rfl) | assumption | (simp only [go_sem]; done)))
    refine ret_same hq _ (.inl rfl) ?_
    simp [go_sem, camB, e]
  · repeat (first | (simp only [go_sem, Int.reduceLT, Int.reduceLE, Int.reduceEq, Int.reduceToNat, e]) | ((with_reducible refine And.intro ?_ ?_); omega) | ((with_reducible refine isSK ?_); first | (refine call_ret (inRange) (by simp only [go_sem, Int.reduceLT, Int.reduceLE, Int.reduceEq, Int.reduceToNat, e]) ?_)) | ((with_reducible refine isMC ?_); first | (refine mcall_ret (inRange) (by simp only [go_sem, Int.reduceLT, Int.reduceLE, Int.reduceEq, Int.reduceToNat, e]) (by simp only [go_sem, Int.reduceLT, Int.reduceLE, Int.reduceEq, Int.reduceToNat, e]) ?_)) | ((with_reducible refine And.intro ?_ ?_); first | (with_reducible rfl) | assumption | (simp only [go_sem]; done)))
    refine ret_same hq _ (.inl rfl) ?_
    simp [go_sem, camB, e]
def camC (l : List (Nat → Int)) (x y : Int) : Int := if okS l = true then (if camB x y = true then 0 else 2) else 1
theorem camC_ok {l : List (Nat → Int)} {x y : Int} (h : camC l x y = 0) : okS l = true ∧ ((-100 ≤ x ∧ x ≤ 100) ∧ (-100 ≤ y ∧ y ≤ 100)) := by
  unfold camC at h
  split at h
  · rename_i e; split at h
    · rename_i e2; exact ⟨e, camB_iff.1 e2⟩
    · cases h
  · cases h
theorem checkCamera {H : List Blk} {v : V} {l : List (Nat → Int)} {a c : Int} (h : Rd H v encL l) (hm : l.length ≤ 9223372036854775806) (hly : ∀ a ∈ l, LyW a) :
    Cal Try.prog 78 [v, .v (.int .i64 a), .v (.int .i64 c)] H fun u H' => u = .v (.int .i64 (camC l a c)) ∧ H' = H := by
  have hsol := h.solid
  refine cal_fn 13 mixed Try.func78 Try.ntmps78 Try.results78 rfl rfl rfl fun hw cx hx hq => ?_
  cases e1 : okS l
  · repeat (first | (simp only [go_sem, Int.reduceLT, Int.reduceLE, Int.reduceEq, Int.reduceToNat, hsol, e1]) | ((with_reducible refine And.intro ?_ ?_); omega) | ((with_reducible refine isSK ?_); first | (refine call_ret (validScene h hm hly) (by simp only [go_sem, Int.reduceLT, Int.reduceLE, Int.reduceEq, Int.reduceToNat, hsol, e1]) ?_)) | ((with_reducible refine isMC ?_); first | (refine mcall_ret (validScene h hm hly) (by simp only [go_sem, Int.reduceLT, Int.reduceLE, Int.reduceEq, Int.reduceToNat, hsol, e1]) (by simp only [go_sem, Int.reduceLT, Int.reduceLE, Int.reduceEq, Int.reduceToNat, hsol, e1]) ?_)) | ((with_reducible refine And.intro ?_ ?_); first | (with_reducible rfl) | assumption | (simp only [go_sem]; done)))
    refine ret_same hq _ (.inl rfl) ?_
    simp [go_sem, camC, e1]
  cases e2 : camB a c
  · repeat (first | (simp only [go_sem, Int.reduceLT, Int.reduceLE, Int.reduceEq, Int.reduceToNat, hsol, e1, e2]) | ((with_reducible refine And.intro ?_ ?_); omega) | ((with_reducible refine isSK ?_); first | (refine call_ret (validScene h hm hly) (by simp only [go_sem, Int.reduceLT, Int.reduceLE, Int.reduceEq, Int.reduceToNat, hsol, e1, e2]) ?_) | (refine call_ret (isCamera) (by simp only [go_sem, Int.reduceLT, Int.reduceLE, Int.reduceEq, Int.reduceToNat, hsol, e1, e2]) ?_)) | ((with_reducible refine isMC ?_); first | (refine mcall_ret (validScene h hm hly) (by simp only [go_sem, Int.reduceLT, Int.reduceLE, Int.reduceEq, Int.reduceToNat, hsol, e1, e2]) (by simp only [go_sem, Int.reduceLT, Int.reduceLE, Int.reduceEq, Int.reduceToNat, hsol, e1, e2]) ?_) | (refine mcall_ret (isCamera) (by simp only [go_sem, Int.reduceLT, Int.reduceLE, Int.reduceEq, Int.reduceToNat, hsol, e1, e2]) (by simp only [go_sem, Int.reduceLT, Int.reduceLE, Int.reduceEq, Int.reduceToNat, hsol, e1, e2]) ?_)) | ((with_reducible refine And.intro ?_ ?_); first | (with_reducible rfl) | assumption | (simp only [go_sem]; done)))
    refine ret_same hq _ (.inl rfl) ?_
    simp [go_sem, camC, e1, e2]
  · repeat (first | (simp only [go_sem, Int.reduceLT, Int.reduceLE, Int.reduceEq, Int.reduceToNat, hsol, e1, e2]) | ((with_reducible refine And.intro ?_ ?_); omega) | ((with_reducible refine isSK ?_); first | (refine call_ret (validScene h hm hly) (by simp only [go_sem, Int.reduceLT, Int.reduceLE, Int.reduceEq, Int.reduceToNat, hsol, e1, e2]) ?_) | (refine call_ret (isCamera) (by simp only [go_sem, Int.reduceLT, Int.reduceLE, Int.reduceEq, Int.reduceToNat, hsol, e1, e2]) ?_)) | ((with_reducible refine isMC ?_); first | (refine mcall_ret (validScene h hm hly) (by simp only [go_sem, Int.reduceLT, Int.reduceLE, Int.reduceEq, Int.reduceToNat, hsol, e1, e2]) (by simp only [go_sem, Int.reduceLT, Int.reduceLE, Int.reduceEq, Int.reduceToNat, hsol, e1, e2]) ?_) | (refine mcall_ret (isCamera) (by simp only [go_sem, Int.reduceLT, Int.reduceLE, Int.reduceEq, Int.reduceToNat, hsol, e1, e2]) (by simp only [go_sem, Int.reduceLT, Int.reduceLE, Int.reduceEq, Int.reduceToNat, hsol, e1, e2]) ?_)) | ((with_reducible refine And.intro ?_ ?_); first | (with_reducible rfl) | assumption | (simp only [go_sem]; done)))
    refine ret_same hq _ (.inl rfl) ?_
    simp [go_sem, camC, e1, e2]
theorem l05Camera {H : List Blk} {v : V} {l : List (Nat → Int)} {a c : Int} (h : Rd H v encL l) (hm : l.length ≤ 9223372036854775806) (hly : ∀ a ∈ l, LyW a) :
    Cal Try.prog 76 [v, .v (.int .i64 a), .v (.int .i64 c)] H fun u H' => u = .v (.int .i64 (camC l a c)) ∧ H' = H := by
  have hsol := h.solid
  refine cal_fn 15 mixed Try.func76 Try.ntmps76 Try.results76 rfl rfl rfl fun hw cx hx hq => ?_
  cases e1 : okS l
  · repeat (first | (simp only [go_sem, Int.reduceLT, Int.reduceLE, Int.reduceEq, Int.reduceToNat, hsol, e1]) | ((with_reducible refine And.intro ?_ ?_); omega) | ((with_reducible refine isSK ?_); first | (refine call_ret (l05Ok h hm hly) (by simp only [go_sem, Int.reduceLT, Int.reduceLE, Int.reduceEq, Int.reduceToNat, hsol, e1]) ?_)) | ((with_reducible refine isMC ?_); first | (refine mcall_ret (l05Ok h hm hly) (by simp only [go_sem, Int.reduceLT, Int.reduceLE, Int.reduceEq, Int.reduceToNat, hsol, e1]) (by simp only [go_sem, Int.reduceLT, Int.reduceLE, Int.reduceEq, Int.reduceToNat, hsol, e1]) ?_)) | ((with_reducible refine And.intro ?_ ?_); first | (with_reducible rfl) | assumption | (simp only [go_sem]; done)))
    refine ret_same hq _ (.inl rfl) ?_
    simp [go_sem, camC, e1]
  cases e2 : (decide (-100 ≤ a) && decide (a ≤ 100))
  · repeat (first | (simp only [go_sem, Int.reduceLT, Int.reduceLE, Int.reduceEq, Int.reduceToNat, hsol, e1, e2]) | ((with_reducible refine And.intro ?_ ?_); omega) | ((with_reducible refine isSK ?_); first | (refine call_ret (l05Ok h hm hly) (by simp only [go_sem, Int.reduceLT, Int.reduceLE, Int.reduceEq, Int.reduceToNat, hsol, e1, e2]) ?_) | (refine call_ret (l00In) (by simp only [go_sem, Int.reduceLT, Int.reduceLE, Int.reduceEq, Int.reduceToNat, hsol, e1, e2]) ?_)) | ((with_reducible refine isMC ?_); first | (refine mcall_ret (l05Ok h hm hly) (by simp only [go_sem, Int.reduceLT, Int.reduceLE, Int.reduceEq, Int.reduceToNat, hsol, e1, e2]) (by simp only [go_sem, Int.reduceLT, Int.reduceLE, Int.reduceEq, Int.reduceToNat, hsol, e1, e2]) ?_) | (refine mcall_ret (l00In) (by simp only [go_sem, Int.reduceLT, Int.reduceLE, Int.reduceEq, Int.reduceToNat, hsol, e1, e2]) (by simp only [go_sem, Int.reduceLT, Int.reduceLE, Int.reduceEq, Int.reduceToNat, hsol, e1, e2]) ?_)) | ((with_reducible refine And.intro ?_ ?_); first | (with_reducible rfl) | assumption | (simp only [go_sem]; done)))
    refine ret_same hq _ (.inl rfl) ?_
    simp [go_sem, camC, camB, e1, e2]
  cases e3 : (decide (-100 ≤ c) && decide (c ≤ 100))
  · repeat (first | (simp only [go_sem, Int.reduceLT, Int.reduceLE, Int.reduceEq, Int.reduceToNat, hsol, e1, e2, e3]) | ((with_reducible refine And.intro ?_ ?_); omega) | ((with_reducible refine isSK ?_); first | (refine call_ret (l05Ok h hm hly) (by simp only [go_sem, Int.reduceLT, Int.reduceLE, Int.reduceEq, Int.reduceToNat, hsol, e1, e2, e3]) ?_) | (refine call_ret (l00In) (by simp only [go_sem, Int.reduceLT, Int.reduceLE, Int.reduceEq, Int.reduceToNat, hsol, e1, e2, e3]) ?_)) | ((with_reducible refine isMC ?_); first | (refine mcall_ret (l05Ok h hm hly) (by simp only [go_sem, Int.reduceLT, Int.reduceLE, Int.reduceEq, Int.reduceToNat, hsol, e1, e2, e3]) (by simp only [go_sem, Int.reduceLT, Int.reduceLE, Int.reduceEq, Int.reduceToNat, hsol, e1, e2, e3]) ?_) | (refine mcall_ret (l00In) (by simp only [go_sem, Int.reduceLT, Int.reduceLE, Int.reduceEq, Int.reduceToNat, hsol, e1, e2, e3]) (by simp only [go_sem, Int.reduceLT, Int.reduceLE, Int.reduceEq, Int.reduceToNat, hsol, e1, e2, e3]) ?_)) | ((with_reducible refine And.intro ?_ ?_); first | (with_reducible rfl) | assumption | (simp only [go_sem]; done)))
    refine ret_same hq _ (.inl rfl) ?_
    simp [go_sem, camC, camB, e1, e2, e3]
  · repeat (first | (simp only [go_sem, Int.reduceLT, Int.reduceLE, Int.reduceEq, Int.reduceToNat, hsol, e1, e2, e3]) | ((with_reducible refine And.intro ?_ ?_); omega) | ((with_reducible refine isSK ?_); first | (refine call_ret (l05Ok h hm hly) (by simp only [go_sem, Int.reduceLT, Int.reduceLE, Int.reduceEq, Int.reduceToNat, hsol, e1, e2, e3]) ?_) | (refine call_ret (l00In) (by simp only [go_sem, Int.reduceLT, Int.reduceLE, Int.reduceEq, Int.reduceToNat, hsol, e1, e2, e3]) ?_)) | ((with_reducible refine isMC ?_); first | (refine mcall_ret (l05Ok h hm hly) (by simp only [go_sem, Int.reduceLT, Int.reduceLE, Int.reduceEq, Int.reduceToNat, hsol, e1, e2, e3]) (by simp only [go_sem, Int.reduceLT, Int.reduceLE, Int.reduceEq, Int.reduceToNat, hsol, e1, e2, e3]) ?_) | (refine mcall_ret (l00In) (by simp only [go_sem, Int.reduceLT, Int.reduceLE, Int.reduceEq, Int.reduceToNat, hsol, e1, e2, e3]) (by simp only [go_sem, Int.reduceLT, Int.reduceLE, Int.reduceEq, Int.reduceToNat, hsol, e1, e2, e3]) ?_)) | ((with_reducible refine And.intro ?_ ?_); first | (with_reducible rfl) | assumption | (simp only [go_sem]; done)))
    refine ret_same hq _ (.inl rfl) ?_
    simp [go_sem, camC, camB, e1, e2, e3]
/-- Eighths of a number, rounded down. -/
def eig (n s : Int) : Int := (n * s).fdiv 8
theorem mul_range {n s : Int} (hn : -100 ≤ n ∧ n ≤ 100) (hs : 0 ≤ s ∧ s ≤ 8) : -800 ≤ n * s ∧ n * s ≤ 800 := by
  rcases (show s = 0 ∨ s = 1 ∨ s = 2 ∨ s = 3 ∨ s = 4 ∨ s = 5 ∨ s = 6 ∨ s = 7 ∨ s = 8 by omega) with rfl | rfl | rfl | rfl | rfl | rfl | rfl | rfl | rfl <;> omega
theorem eig_range {n s : Int} (hn : -100 ≤ n ∧ n ≤ 100) (hs : 0 ≤ s ∧ s ≤ 8) : -100 ≤ eig n s ∧ eig n s ≤ 100 := by
  have := mul_range hn hs
  unfold eig
  rw [Int.fdiv_eq_ediv_of_nonneg _ (by omega)]
  omega
theorem eighths {H : List Blk} {n s : Int} (hn : -100 ≤ n ∧ n ≤ 100) (hs : 0 ≤ s ∧ s ≤ 8) : Cal Try.prog 138 [.v (.int .i64 n), .v (.int .i64 s)] H fun v H' => v = .v (.int .i64 (eig n s)) ∧ H' = H := by
  have hmr := mul_range hn hs
  have hsh : ∀ z : Int, z.fdiv (2 ^ min 3 64) = z.fdiv 8 := fun z => rfl
  refine cal_fn 7 mixed Try.func138 Try.ntmps138 Try.results138 rfl rfl rfl fun hw cx hx hq => ?_
  repeat (first | (simp only [go_sem, Int.reduceLT, Int.reduceLE, Int.reduceEq, Int.reduceToNat, hsh]) | ((with_reducible refine And.intro ?_ ?_); omega) | ((with_reducible refine And.intro ?_ ?_); first | (with_reducible rfl) | assumption | (simp only [go_sem]; done)))
  refine ret_same hq _ (.inl rfl) ?_
  simp [go_sem, eig]
theorem l05Eighths {H : List Blk} {n s : Int} (hn : -100 ≤ n ∧ n ≤ 100) (hs : 0 ≤ s ∧ s ≤ 8) : Cal Try.prog 137 [.v (.int .i64 n), .v (.int .i64 s)] H fun v H' => v = .v (.int .i64 (eig n s)) ∧ H' = H := by
  have hmr := mul_range hn hs
  unfold eig
  refine cal_fn 22 mixed Try.func137 Try.ntmps137 Try.results137 rfl rfl rfl fun hw cx hx hq => ?_
  repeat (first | (simp only [go_sem, Int.reduceLT, Int.reduceLE, Int.reduceEq, Int.reduceToNat]) | ((with_reducible refine And.intro ?_ ?_); omega) | ((with_reducible refine And.intro ?_ ?_); first | (with_reducible rfl) | assumption | (simp only [go_sem]; done)))
  have hd : (n * s).fdiv 8 = (n * s) / 8 := Int.fdiv_eq_ediv_of_nonneg _ (by omega)
  by_cases e1 : n * s < 0
  · have ht : (n * s).tdiv 8 = -((-(n * s)) / 8) := by rw [← Int.tdiv_eq_ediv_of_nonneg (by omega), Int.neg_tdiv]; omega
    have hr : (n * s).tmod 8 = n * s - 8 * (n * s).tdiv 8 := by rw [Int.tmod_def]
    generalize n * s = z at *
    by_cases e2 : z.tmod 8 = 0
    · repeat (first | (simp only [go_sem, Int.reduceLT, Int.reduceLE, Int.reduceEq, Int.reduceToNat, e1, e2]) | ((with_reducible refine And.intro ?_ ?_); omega) | ((with_reducible refine And.intro ?_ ?_); first | (with_reducible rfl) | assumption | (simp only [go_sem]; done)))
      refine ret_same hq _ (.inl rfl) ?_
      simp [go_sem]; omega
    · repeat (first | (simp only [go_sem, Int.reduceLT, Int.reduceLE, Int.reduceEq, Int.reduceToNat, e1, e2]) | ((with_reducible refine And.intro ?_ ?_); omega) | ((with_reducible refine And.intro ?_ ?_); first | (with_reducible rfl) | assumption | (simp only [go_sem]; done)))
      refine ret_same hq _ (.inl rfl) ?_
      simp [go_sem]; omega
  · have ht : (n * s).tdiv 8 = (n * s) / 8 := Int.tdiv_eq_ediv_of_nonneg (by omega)
    generalize n * s = z at *
    repeat (first | (simp only [go_sem, Int.reduceLT, Int.reduceLE, Int.reduceEq, Int.reduceToNat, e1]) | ((with_reducible refine And.intro ?_ ?_); omega) | ((with_reducible refine And.intro ?_ ?_); first | (with_reducible rfl) | assumption | (simp only [go_sem]; done)))
    refine ret_same hq _ (.inl rfl) ?_
    simp [go_sem]; omega
theorem okL_share {a : Nat → Int} (h : okL a = true) : (-12 ≤ a 24 ∧ a 24 ≤ 12) ∧ (-12 ≤ a 25 ∧ a 25 ≤ 12) ∧ (0 ≤ a 26 ∧ a 26 ≤ 8) := by
  unfold okL at h
  simp only [Bool.and_eq_true, decide_eq_true_eq] at h
  exact h.2
def offE (a : Nat → Int) (x : Int) : Int := a 24 - eig x (a 26)
def offS (a : Nat → Int) (y : Int) : Int := a 25 - eig y (a 26)
theorem offset {H : List Blk} {a : Nat → Int} {p q : Int} (ho : okL a = true) (hp : -100 ≤ p ∧ p ≤ 100) (hq2 : -100 ≤ q ∧ q ≤ 100) : Cal Try.prog 116 [.a (encL a), .v (.int .i64 p), .v (.int .i64 q)] H fun v H' => v = .t [.v (.int .i64 (offE a p)), .v (.int .i64 (offS a q))] ∧ H' = H := by
  have hs := okL_share ho
  have r1 := eig_range hp hs.2.2
  have r2 := eig_range hq2 hs.2.2
  unfold encL tailL
  refine cal_fn 23 mixed Try.func116 Try.ntmps116 Try.results116 rfl rfl rfl fun hw cx hx hq => ?_
  repeat (first | (simp only [go_sem, Int.reduceLT, Int.reduceLE, Int.reduceEq, Int.reduceToNat, celL24, celL25, celL26]) | ((with_reducible refine And.intro ?_ ?_); omega) | ((with_reducible refine isSK ?_); first | (refine call_ret (eighths hp hs.2.2) (by simp only [go_sem, Int.reduceLT, Int.reduceLE, Int.reduceEq, Int.reduceToNat, celL24, celL25, celL26]) ?_) | (refine call_ret (eighths hq2 hs.2.2) (by simp only [go_sem, Int.reduceLT, Int.reduceLE, Int.reduceEq, Int.reduceToNat, celL24, celL25, celL26]) ?_)) | ((with_reducible refine isMC ?_); first | (refine mcall_ret (eighths hp hs.2.2) (by simp only [go_sem, Int.reduceLT, Int.reduceLE, Int.reduceEq, Int.reduceToNat, celL24, celL25, celL26]) (by simp only [go_sem, Int.reduceLT, Int.reduceLE, Int.reduceEq, Int.reduceToNat, celL24, celL25, celL26]) ?_) | (refine mcall_ret (eighths hq2 hs.2.2) (by simp only [go_sem, Int.reduceLT, Int.reduceLE, Int.reduceEq, Int.reduceToNat, celL24, celL25, celL26]) (by simp only [go_sem, Int.reduceLT, Int.reduceLE, Int.reduceEq, Int.reduceToNat, celL24, celL25, celL26]) ?_)) | ((with_reducible refine isWKr (id := 1) ?_); refine WK_drawAt 1 [[],[0],[0,1],[],[],[4],[4,5],[3,4,5,6],[0,1,2,3,4,5,6,7],[],[9],[9,10],[],[],[13],[13,14],[3,4,5,6,7,12,13,14,15],[3,4,5,6,7,9,10,11,12,13,14,15,16],[0,1,2,3,4,5,6,7,8,12,13,14,15,16],[0,1,2,3,4,5,6,7,8,9,10,11,12,13,14,15,16,17,18]] (by kernel_rfl) ?_) | ((with_reducible refine And.intro ?_ ?_); first | (with_reducible rfl) | assumption | (simp only [go_sem]; done)))
  refine ret_cut hq hw _ (.inl rfl) ?_
  simp [go_sem, offE, offS]
theorem l05Offset {H : List Blk} {i off : Nat} {b : Blk} {a : Nat → Int} {p q : Int} (h : At H i off (encL a) b) (ho : okL a = true) (hp : -100 ≤ p ∧ p ≤ 100) (hq2 : -100 ≤ q ∧ q ≤ 100) : Cal Try.prog 114 [.p i off, .v (.int .i64 p), .v (.int .i64 q)] H fun v H' => v = .t [.v (.int .i64 (offE a p)), .v (.int .i64 (offS a q))] ∧ H' = H := by
  obtain ⟨h1, h24, h25, h26⟩ := encL_at h
  have hlen := h.len (by rw [encL_len]; omega)
  rw [encL_len] at hlen
  have hs := okL_share ho
  have r1 := eig_range hp hs.2.2
  have r2 := eig_range hq2 hs.2.2
  refine cal_fn 33 mixed Try.func114 Try.ntmps114 Try.results114 rfl rfl rfl fun hw cx hx hq => ?_
  repeat (first | (simp only [go_sem, Int.reduceLT, Int.reduceLE, Int.reduceEq, Int.reduceToNat, h.get, h.live, h24, h25, h26]) | ((with_reducible refine And.intro ?_ ?_); omega) | ((with_reducible refine isSK ?_); first | (refine call_ret (l05Eighths hp hs.2.2) (by simp only [go_sem, Int.reduceLT, Int.reduceLE, Int.reduceEq, Int.reduceToNat, h.get, h.live, h24, h25, h26]) ?_) | (refine call_ret (l05Eighths hq2 hs.2.2) (by simp only [go_sem, Int.reduceLT, Int.reduceLE, Int.reduceEq, Int.reduceToNat, h.get, h.live, h24, h25, h26]) ?_)) | ((with_reducible refine isMC ?_); first | (refine mcall_ret (l05Eighths hp hs.2.2) (by simp only [go_sem, Int.reduceLT, Int.reduceLE, Int.reduceEq, Int.reduceToNat, h.get, h.live, h24, h25, h26]) (by simp only [go_sem, Int.reduceLT, Int.reduceLE, Int.reduceEq, Int.reduceToNat, h.get, h.live, h24, h25, h26]) ?_) | (refine mcall_ret (l05Eighths hq2 hs.2.2) (by simp only [go_sem, Int.reduceLT, Int.reduceLE, Int.reduceEq, Int.reduceToNat, h.get, h.live, h24, h25, h26]) (by simp only [go_sem, Int.reduceLT, Int.reduceLE, Int.reduceEq, Int.reduceToNat, h.get, h.live, h24, h25, h26]) ?_)) | ((with_reducible refine isWKr (id := 1) ?_); refine WK_drawAt 1 [[],[0],[0,1],[0,1,2],[0,1,2,3],[],[],[6],[6,7],[6,7,8],[6,7,8,9],[5,6,7,8,9,10],[0,1,2,3,4,5,6,7,8,9,10,11],[0,1,2,3,4,5,6,7,8,9,10,11,12]] (by kernel_rfl) ?_) | ((with_reducible refine isWKr (id := 2) ?_); refine WK_drawAt 2 [[],[],[1],[1,2],[1,2,3],[1,2,3,4],[],[],[7],[7,8],[7,8,9],[7,8,9,10],[6,7,8,9,10,11],[1,2,3,4,5,6,7,8,9,10,11,12],[0,6,7,8,9,10,11,12],[0,1,2,3,4,5,6,7,8,9,10,11,12,13,14]] (by kernel_rfl) ?_) | ((with_reducible refine And.intro ?_ ?_); first | (with_reducible rfl) | assumption | (simp only [go_sem]; done)))
  refine ret_same hq _ (.inl rfl) ?_
  simp [go_sem, offE, offS]
theorem isIn {H : List Blk} {v : V} {l : List (Nat → Int)} {p : Int} (h : Rd H v encL l) (hm : l.length ≤ 9223372036854775806) :
    Cal Try.prog 65 [v, .v (.int .i64 p)] H fun u H' => u = .v (.bool (decide (0 ≤ p) && decide (p ≤ (l.length : Int) - 1))) ∧ H' = H := by
  have hsol := h.solid
  have hL := h.lenV (P := Try.prog) slTy25
  refine cal_fn 8 mixed Try.func65 Try.ntmps65 Try.results65 rfl rfl rfl fun hw cx hx hq => ?_
  repeat (first | (simp only [go_sem, Int.reduceLT, Int.reduceLE, Int.reduceEq, Int.reduceToNat, hsol, hL]) | ((with_reducible refine And.intro ?_ ?_); omega) | ((with_reducible refine isSK ?_); first | (refine call_ret (inRange) (by simp only [go_sem, Int.reduceLT, Int.reduceLE, Int.reduceEq, Int.reduceToNat, hsol, hL]) ?_)) | ((with_reducible refine isMC ?_); first | (refine mcall_ret (inRange) (by simp only [go_sem, Int.reduceLT, Int.reduceLE, Int.reduceEq, Int.reduceToNat, hsol, hL]) (by simp only [go_sem, Int.reduceLT, Int.reduceLE, Int.reduceEq, Int.reduceToNat, hsol, hL]) ?_)) | ((with_reducible refine And.intro ?_ ?_); first | (with_reducible rfl) | assumption | (simp only [go_sem]; done)))
  refine ret_same hq _ (.inl rfl) ?_
  simp [go_sem]
def ly (l : List (Nat → Int)) (k : Nat) : Nat → Int := l[k]?.getD zeroF
theorem ly_at {l : List (Nat → Int)} {i : Nat} (h : i < l.length) : ly l i = l[i] := by unfold ly; rw [List.getElem?_eq_getElem h]; rfl
end Go.Proofs.Ytheeehjgmifclaa

