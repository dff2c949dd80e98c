/- Contracts of functions of the translated program, by the walk. -/
import Derived.Test.YtjkkallcgplgmaaE2
import Derived.Test.YtjkkallcgplgmaaLD
set_option linter.unusedVariables false
set_option linter.unusedSimpArgs false
set_option maxRecDepth 8000
set_option maxHeartbeats 4000000
namespace Go.Proofs.Ytjkkallcgplgmaa
open Go Go.Sx

theorem reverseI {H : List Blk} {bi a n : Nat} {c : Cap} {L : List (Int)} {ty : TypeId} {kd : BK} (hb : H[bi]? = some ⟨L.flatMap i64C, ty, kd⟩) (hk : kd.mut = true) (hn : a + n ≤ L.length) (hl : L.length ≤ 1000000) :
    Cal Try.prog 91 [.s bi (a) n c] H fun u H' => u = .t [] ∧ H' = H.set bi ⟨(revW L a n (n / 2)).flatMap i64C, ty, kd⟩ := by
  have hlt := (List.getElem?_eq_some_iff.1 hb).1
  have hgs : ∀ b : Blk, (H.set bi b)[bi]? = some b := fun b => List.getElem?_set_self hlt
  have hlive : kd.live = true := by cases kd <;> first | rfl | cases hk
  refine cal_fn 27 mixed Try.func91 Try.ntmps91 Try.results91 rfl rfl rfl fun hw cx hx hq => ?_
  repeat (first | (simp only [go_sem, Int.reduceLT, Int.reduceLE, Int.reduceEq, Int.reduceToNat]) | ((with_reducible refine And.intro ?_ ?_); omega) | ((with_reducible refine isWKr (id := 3) ?_); refine WK_drawAt 3 [[],[],[],[],[],[],[4,5],[4,5,6],[],[],[8,9],[8,9,10],[0,1,4,5,6,7,8,9,10,11],[0,1,4,5,6,7,8,9,10,11,12],[0,1,2,3,4,5,6,7,8,9,10,11,12,13],[0,1,2,3,4,5,6,7,8,9,10,11,12,13,14]] (by kernel_rfl) ?_) | ((with_reducible refine And.intro ?_ ?_); first | (with_reducible rfl) | assumption | (simp only [go_sem]; done)))
  refine WK_for (fun m : Nat => ⟨[.s bi (a) n c, .any, .v (.int .i64 m), .v (.int .i64 ((n : Int) - 1 - m))] ++ junk 24, H.set bi ⟨(revW L a n m).flatMap i64C, ty, kd⟩⟩) (fun m => m ≤ n / 2) (fun m => n / 2 - m) 0 ?_ (Nat.zero_le _) fun m hm => ?_
  · rw [show revW L a n 0 = L from rfl, set_get hb]; exact Weak.slots (by simp [go_sem])
  have hML := revW_len L a n m
  rcases Int.lt_or_le (m : Int) ((n : Int) - 1 - m) with hc | hc
  · have g1 : a + n - 1 - m < (revW L a n m).length := by omega
    have g2 : a + m < (revW L a n m).length := by omega
    have t1 : ((n : Int) - 1 - m).toNat = n - 1 - m := by omega
    have hfl : ((revW L a n m).flatMap i64C).length = L.length * 1 := by rw [flat_len i64C 1 (fun _ => rfl), hML]
    have f1 : cel ((revW L a n m).flatMap i64C) (a + (n - 1 - m)) = .v (.int .i64 ((revW L a n m).getD (a + n - 1 - m) default)) := by
      have := (At.mk0 (H := []) (L := []) (cs := (revW L a n m).flatMap i64C) (t := 0) (k := .own 1) rfl).i64 (show a + n - 1 - m < (revW L a n m).length from g1)
      rw [getD_at _ (g1), ← this]; congr 1; omega
    have f2 : cel ((revW L a n m).flatMap i64C) (a + (m)) = .v (.int .i64 ((revW L a n m).getD (a + m) default)) := by
      have := (At.mk0 (H := []) (L := []) (cs := (revW L a n m).flatMap i64C) (t := 0) (k := .own 1) rfl).i64 (show a + m < (revW L a n m).length from g2)
      rw [getD_at _ (g2), ← this]; congr 1; omega
    have hs : revW L a n (m + 1) = swapL (revW L a n m) (a + m) (a + n - 1 - m) := rfl
    unfold swapL at hs
    generalize (revW L a n m).getD (a + n - 1 - m) default = x1 at f1 hs
    generalize (revW L a n m).getD (a + m) default = x2 at f2 hs
    have w1 : wr ((revW L a n m).flatMap i64C) (a + (m)) [.v (.int .i64 (x1))] = ((revW L a n m).set (a + m) (x1)).flatMap i64C := by
      rw [← flat_set i64C 1 (fun _ => rfl) _ _ x1 g2]; rw [Nat.mul_one]; rfl
    have w2 : wr (((revW L a n m).set (a + m) x1).flatMap i64C) (a + (n - 1 - m)) [.v (.int .i64 (x2))] = (((revW L a n m).set (a + m) x1).set (a + n - 1 - m) (x2)).flatMap i64C := by
      rw [← flat_set i64C 1 (fun _ => rfl) _ _ x2 (by rw [List.length_set]; exact g1)]; rw [Nat.mul_one, show a + (n - 1 - m) = a + n - 1 - m by omega]; rfl
    have hfl2 : (((revW L a n m).set (a + m) x1).flatMap i64C).length = L.length * 1 := by rw [flat_len i64C 1 (fun _ => rfl), List.length_set, hML]
    repeat (first | (simp only [go_sem, Int.reduceLT, Int.reduceLE, Int.reduceEq, Int.reduceToNat, hc, hgs, hk, hlive, t1, f1, f2, w1, w2, hfl, hfl2, List.set_set, Nat.mul_one]) | ((with_reducible refine And.intro ?_ ?_); omega) | ((with_reducible refine isWKr (id := 3) ?_); refine WK_drawAt 3 [[],[],[],[],[],[],[4,5],[4,5,6],[],[],[8,9],[8,9,10],[0,1,4,5,6,7,8,9,10,11],[0,1,4,5,6,7,8,9,10,11,12],[0,1,2,3,4,5,6,7,8,9,10,11,12,13],[0,1,2,3,4,5,6,7,8,9,10,11,12,13,14]] (by kernel_rfl) ?_) | ((with_reducible refine And.intro ?_ ?_); first | (with_reducible rfl) | assumption | (simp only [go_sem]; done)))
    refine EK_again (m + 1) ?_ (by omega) (by omega)
    rw [hs]
    exact Weak.slots (by simp [go_sem] <;> omega)
  · have : m = n / 2 := by omega
    subst this
    repeat (first | (simp only [go_sem, Int.reduceLT, Int.reduceLE, Int.reduceEq, Int.reduceToNat, Int.not_lt.2 hc]) | ((with_reducible refine And.intro ?_ ?_); omega) | ((with_reducible refine isWKr (id := 3) ?_); refine WK_drawAt 3 [[],[],[],[],[],[],[4,5],[4,5,6],[],[],[8,9],[8,9,10],[0,1,4,5,6,7,8,9,10,11],[0,1,4,5,6,7,8,9,10,11,12],[0,1,2,3,4,5,6,7,8,9,10,11,12,13],[0,1,2,3,4,5,6,7,8,9,10,11,12,13,14]] (by kernel_rfl) ?_) | ((with_reducible refine And.intro ?_ ?_); first | (with_reducible rfl) | assumption | (simp only [go_sem]; done)))
    refine ret_at hq _ (.inr rfl) (by simp) ?_
    simp [go_sem]


end Go.Proofs.Ytjkkallcgplgmaa

