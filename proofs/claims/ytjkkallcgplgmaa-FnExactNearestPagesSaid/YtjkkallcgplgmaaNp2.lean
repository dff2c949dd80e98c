/- Contracts of functions of the translated program, by the walk. -/
import Derived.Test.YtjkkallcgplgmaaNp1
set_option linter.unusedVariables false
set_option linter.unusedSimpArgs false
set_option maxRecDepth 8000
set_option maxHeartbeats 4000000
namespace Go.Proofs.Ytjkkallcgplgmaa
open Go Go.Sx
theorem swapRange {H : List Blk} {bi N : Nat} {f : Nat → Int} {ty : TypeId} {kd : BK} {c : Cap} {fn : Nat} {cs : List V} {a b n : Nat} {xa xb xn : Int} (hb : H[bi]? = some ⟨rowL .i64 N f, ty, kd⟩) (hk : kd.mut = true) (hN : N ≤ 1000) (hcs : cs.all V.solid = true) (ha : xa = a) (hb2 : xb = b) (hn : xn = n) (hab : a + n ≤ b) (hbn : b + n ≤ N) :
    Cal Try.prog 162 [.s bi 0 N c, .v (.int .i64 xa), .v (.int .i64 xb), .v (.int .i64 xn), .f fn cs] H fun u H' => u = .t [] ∧ H' = H.set bi ⟨rowL .i64 N (swF f a b n), ty, kd⟩ := by
  subst ha hb2 hn
  have hlt := (List.getElem?_eq_some_iff.1 hb).1
  have hgs : ∀ b : Blk, (H.set bi b)[bi]? = some b := fun b => List.getElem?_set_self hlt
  have hlive : kd.live = true := by cases kd <;> first | rfl | cases hk
  refine cal_fn 33 mixed Try.func162 Try.ntmps162 Try.results162 rfl rfl rfl fun hw cx hx hq => ?_
  repeat (first | (simp only [go_sem, Int.reduceLT, Int.reduceLE, Int.reduceEq, Int.reduceToNat, hcs]) | ((with_reducible refine And.intro ?_ ?_); omega) | ((with_reducible refine isWKr (id := 3) ?_); refine WK_drawAt 3 [[],[],[],[1,2],[],[],[],[5,6],[],[],[],[9,10],[8,9,10,11],[8,9,10,11,12],[],[],[],[15,16],[14,15,16,17],[14,15,16,17,18],[0,1,2,3,8,9,10,11,12,13,14,15,16,17,18,19],[0,1,2,3,8,9,10,11,12,13,14,15,16,17,18,19,20],[0,1,2,3,4,5,6,7,8,9,10,11,12,13,14,15,16,17,18,19,20,21],[0,1,2,3,4,5,6,7,8,9,10,11,12,13,14,15,16,17,18,19,20,21,22]] (by kernel_rfl) ?_) | ((with_reducible refine And.intro ?_ ?_); first | (with_reducible rfl) | assumption | (simp only [go_sem]; done)))
  refine WK_for (fun i : Nat => ⟨[.s bi 0 N c, .v (.int .i64 (a : Int)), .v (.int .i64 (b : Int)), .v (.int .i64 (n : Int)), .f fn cs, .any, .any, .any, .any, .any, .v (.int .i64 i)] ++ junk 27, H.set bi ⟨rowL .i64 N (swF f a b i), ty, kd⟩⟩) (fun i => i ≤ n) (fun i => n - i) 0 ?_ (Nat.zero_le _) fun i hi => ?_
  · rw [swF_zero, set_get hb]; exact Weak.slots (by simp [go_sem])
  rcases Int.lt_or_le (i : Int) n with hc | hc
  · have g1 : a + i < N := by omega
    have g2 : b + i < N := by omega
    have t1 : ((a : Int) + (i : Int)).toNat = a + i := by omega
    have t2 : ((b : Int) + (i : Int)).toNat = b + i := by omega
    have hs := swF_succ f (a := a) (b := b) (n := i) (by omega)
    repeat (first | (simp only [go_sem, Int.reduceLT, Int.reduceLE, Int.reduceEq, Int.reduceToNat, hc, hgs, hk, hlive, hcs, List.set_set, rowL_length, t1, t2, rowL_cel _ _ _ g1, rowL_cel _ _ _ g2, rowL_wr _ _ _ g1, rowL_wr _ _ _ g2]) | ((with_reducible refine And.intro ?_ ?_); omega) | ((with_reducible refine isWKr (id := 3) ?_); refine WK_drawAt 3 [[],[],[],[1,2],[],[],[],[5,6],[],[],[],[9,10],[8,9,10,11],[8,9,10,11,12],[],[],[],[15,16],[14,15,16,17],[14,15,16,17,18],[0,1,2,3,8,9,10,11,12,13,14,15,16,17,18,19],[0,1,2,3,8,9,10,11,12,13,14,15,16,17,18,19,20],[0,1,2,3,4,5,6,7,8,9,10,11,12,13,14,15,16,17,18,19,20,21],[0,1,2,3,4,5,6,7,8,9,10,11,12,13,14,15,16,17,18,19,20,21,22]] (by kernel_rfl) ?_) | ((with_reducible refine And.intro ?_ ?_); first | (with_reducible rfl) | assumption | (simp only [go_sem]; done)))
    refine EK_again (i + 1) ?_ (by omega) (by omega)
    rw [hs]
    exact Weak.slots (by simp [go_sem] <;> omega)
  · have : i = n := by omega
    subst this
    repeat (first | (simp only [go_sem, Int.reduceLT, Int.reduceLE, Int.reduceEq, Int.reduceToNat, Int.not_lt.2 hc]) | ((with_reducible refine And.intro ?_ ?_); omega) | ((with_reducible refine isWKr (id := 3) ?_); refine WK_drawAt 3 [[],[],[],[1,2],[],[],[],[5,6],[],[],[],[9,10],[8,9,10,11],[8,9,10,11,12],[],[],[],[15,16],[14,15,16,17],[14,15,16,17,18],[0,1,2,3,8,9,10,11,12,13,14,15,16,17,18,19],[0,1,2,3,8,9,10,11,12,13,14,15,16,17,18,19,20],[0,1,2,3,4,5,6,7,8,9,10,11,12,13,14,15,16,17,18,19,20,21],[0,1,2,3,4,5,6,7,8,9,10,11,12,13,14,15,16,17,18,19,20,21,22]] (by kernel_rfl) ?_) | ((with_reducible refine And.intro ?_ ?_); first | (with_reducible rfl) | assumption | (simp only [go_sem]; done)))
    refine ret_at hq _ (.inr rfl) (by simp) ?_
    simp [go_sem]
theorem rotate {H : List Blk} {bi N : Nat} {f : Nat → Int} {ty : TypeId} {kd : BK} {c : Cap} {fn : Nat} {cs : List V} {a m b : Nat} {xa xm xb : Int} (hb : H[bi]? = some ⟨rowL .i64 N f, ty, kd⟩) (hk : kd.mut = true) (hN : N ≤ 1000) (hcs : cs.all V.solid = true) (ha : xa = a) (hm : xm = m) (hb2 : xb = b) (ham : a < m) (hmb : m < b) (hbn : b ≤ N) :
    Cal Try.prog 149 [.s bi 0 N c, .v (.int .i64 xa), .v (.int .i64 xm), .v (.int .i64 xb), .f fn cs] H fun u H' => u = .t [] ∧ H' = H.set bi ⟨rowL .i64 N (roF f a m b), ty, kd⟩ := by
  subst ha hm hb2
  have hlt := (List.getElem?_eq_some_iff.1 hb).1
  have hgs : ∀ b : Blk, (H.set bi b)[bi]? = some b := fun b => List.getElem?_set_self hlt
  have hlive : kd.live = true := by cases kd <;> first | rfl | cases hk
  refine cal_fn 53 mixed Try.func149 Try.ntmps149 Try.results149 rfl rfl rfl fun hw cx hx hq => ?_
  repeat (first | (simp only [go_sem, Int.reduceLT, Int.reduceLE, Int.reduceEq, Int.reduceToNat, hcs]) | ((with_reducible refine And.intro ?_ ?_); omega) | ((with_reducible refine And.intro ?_ ?_); first | (with_reducible rfl) | assumption | (simp only [go_sem]; done)))
  refine WK_for (fun s : Nat × Nat × (Nat → Int) => ⟨[.s bi 0 N c, .v (.int .i64 (a : Int)), .v (.int .i64 (m : Int)), .v (.int .i64 (b : Int)), .f fn cs, .any, .any, .any, .any, .any, .v (.int .i64 s.1), .v (.int .i64 s.2.1)] ++ junk 46, H.set bi ⟨rowL .i64 N (s.2.2), ty, kd⟩⟩) (fun s => (0 < s.1 ∧ s.1 ≤ m) ∧ (0 < s.2.1 ∧ m + s.2.1 ≤ N) ∧ roF s.2.2 (m - s.1) m (m + s.2.1) = roF f a m b) (fun s => s.1 + s.2.1) (m - a, b - m, f) ?_ ?_ fun s hs => ?_
  · rw [set_get hb]; exact Weak.slots (by simp [go_sem] <;> omega)
  · refine ⟨by dsimp only; omega, by dsimp only; omega, ?_⟩
    show roF f (m - (m - a)) m (m + (b - m)) = _
    rw [show m - (m - a) = a by omega, show m + (b - m) = b by omega]
  obtain ⟨i, j, g⟩ := s
  obtain ⟨hi, hj, he⟩ := hs
  simp only at hi hj he ⊢
  by_cases e : i = j
  · subst e
    have e1 : ((i : Int) = (i : Int)) = True := eq_true rfl
    repeat (first | (simp only [go_sem, Int.reduceLT, Int.reduceLE, Int.reduceEq, Int.reduceToNat, hgs, hk, hlive, hcs, List.set_set, rowL_length, e1]) | ((with_reducible refine And.intro ?_ ?_); omega) | ((with_reducible refine isSK ?_); first | (refine call_ret (swapRange (f := g) (a := m - i) (b := m) (n := i) (hgs _) hk hN hcs (by omega) rfl rfl (by omega) (by omega)) (by simp only [go_sem, Int.reduceLT, Int.reduceLE, Int.reduceEq, Int.reduceToNat, hgs, hk, hlive, hcs, List.set_set, rowL_length, e1]) ?_)) | ((with_reducible refine isMC ?_); first | (refine mcall_ret (swapRange (f := g) (a := m - i) (b := m) (n := i) (hgs _) hk hN hcs (by omega) rfl rfl (by omega) (by omega)) (by simp only [go_sem, Int.reduceLT, Int.reduceLE, Int.reduceEq, Int.reduceToNat, hgs, hk, hlive, hcs, List.set_set, rowL_length, e1]) (by simp only [go_sem, Int.reduceLT, Int.reduceLE, Int.reduceEq, Int.reduceToNat, hgs, hk, hlive, hcs, List.set_set, rowL_length, e1]) ?_)) | ((with_reducible refine And.intro ?_ ?_); first | (with_reducible rfl) | assumption | (simp only [go_sem]; done)))
    refine ret_at hq _ (.inr rfl) (by simp) ?_
    rw [roF_end g hi.2, he]
    simp [go_sem]
  · have e1 : ((i : Int) = (j : Int)) = False := eq_false (by omega)
    by_cases e2 : j < i
    · have e3 : ((j : Int) < (i : Int)) = True := eq_true (by omega)
      repeat (first | (simp only [go_sem, Int.reduceLT, Int.reduceLE, Int.reduceEq, Int.reduceToNat, hgs, hk, hlive, hcs, List.set_set, rowL_length, e1, e3]) | ((with_reducible refine And.intro ?_ ?_); omega) | ((with_reducible refine isSK ?_); first | (refine call_ret (swapRange (f := g) (a := m - i) (b := m) (n := j) (hgs _) hk hN hcs (by omega) rfl rfl (by omega) (by omega)) (by simp only [go_sem, Int.reduceLT, Int.reduceLE, Int.reduceEq, Int.reduceToNat, hgs, hk, hlive, hcs, List.set_set, rowL_length, e1, e3]) ?_)) | ((with_reducible refine isMC ?_); first | (refine mcall_ret (swapRange (f := g) (a := m - i) (b := m) (n := j) (hgs _) hk hN hcs (by omega) rfl rfl (by omega) (by omega)) (by simp only [go_sem, Int.reduceLT, Int.reduceLE, Int.reduceEq, Int.reduceToNat, hgs, hk, hlive, hcs, List.set_set, rowL_length, e1, e3]) (by simp only [go_sem, Int.reduceLT, Int.reduceLE, Int.reduceEq, Int.reduceToNat, hgs, hk, hlive, hcs, List.set_set, rowL_length, e1, e3]) ?_)) | ((with_reducible refine And.intro ?_ ?_); first | (with_reducible rfl) | assumption | (simp only [go_sem]; done)))
      refine EK_again (i - j, j, swF g (m - i) m j) (Weak.slots ?_) ⟨by dsimp only; omega, by dsimp only; omega, ?_⟩ (by dsimp only; omega)
      · simp [go_sem] <;> omega
      · dsimp only; rw [roF_left g hi.2 e2, he]
    · have e3 : ((j : Int) < (i : Int)) = False := eq_false (by omega)
      repeat (first | (simp only [go_sem, Int.reduceLT, Int.reduceLE, Int.reduceEq, Int.reduceToNat, hgs, hk, hlive, hcs, List.set_set, rowL_length, e1, e3]) | ((with_reducible refine And.intro ?_ ?_); omega) | ((with_reducible refine isSK ?_); first | (refine call_ret (swapRange (f := g) (a := m - i) (b := m + j - i) (n := i) (hgs _) hk hN hcs (by omega) (by omega) rfl (by omega) (by omega)) (by simp only [go_sem, Int.reduceLT, Int.reduceLE, Int.reduceEq, Int.reduceToNat, hgs, hk, hlive, hcs, List.set_set, rowL_length, e1, e3]) ?_)) | ((with_reducible refine isMC ?_); first | (refine mcall_ret (swapRange (f := g) (a := m - i) (b := m + j - i) (n := i) (hgs _) hk hN hcs (by omega) (by omega) rfl (by omega) (by omega)) (by simp only [go_sem, Int.reduceLT, Int.reduceLE, Int.reduceEq, Int.reduceToNat, hgs, hk, hlive, hcs, List.set_set, rowL_length, e1, e3]) (by simp only [go_sem, Int.reduceLT, Int.reduceLE, Int.reduceEq, Int.reduceToNat, hgs, hk, hlive, hcs, List.set_set, rowL_length, e1, e3]) ?_)) | ((with_reducible refine And.intro ?_ ?_); first | (with_reducible rfl) | assumption | (simp only [go_sem]; done)))
      refine EK_again (i, j - i, swF g (m - i) (m + j - i) i) (Weak.slots ?_) ⟨by dsimp only; omega, by dsimp only; omega, ?_⟩ (by dsimp only; omega)
      · simp [go_sem] <;> omega
      · dsimp only; rw [roF_right g hi.2 (by omega), he]
end Go.Proofs.Ytjkkallcgplgmaa

