/- Contracts of functions of the translated program, by the walk. -/
import Derived.Test.YtjkkallcgplgmaaE2
import Derived.Test.YtjkkallcgplgmaaLD
set_option linter.unusedVariables false
set_option linter.unusedSimpArgs false
set_option maxRecDepth 8000
set_option maxHeartbeats 4000000
namespace Go.Proofs.Ytjkkallcgplgmaa
open Go Go.Sx

theorem reverseB {H : List Blk} {bi a n : Nat} {c : Cap} {L : List (Nat → Int)} {ty : TypeId} {kd : BK} (hb : H[bi]? = some ⟨L.flatMap (rowL .u16 12), ty, kd⟩) (hk : kd.mut = true) (hn : a + n ≤ L.length) (hl : L.length ≤ 1000000) :
    Cal Try.prog 71 [.s bi (a * 12) n c] H fun u H' => u = .t [] ∧ H' = H.set bi ⟨(revW L a n (n / 2)).flatMap (rowL .u16 12), ty, kd⟩ := by
  have hlt := (List.getElem?_eq_some_iff.1 hb).1
  have hgs : ∀ b : Blk, (H.set bi b)[bi]? = some b := fun b => List.getElem?_set_self hlt
  have hlive : kd.live = true := by cases kd <;> first | rfl | cases hk
  refine cal_fn 27 mixed Try.func71 Try.ntmps71 Try.results71 rfl rfl rfl fun hw cx hx hq => ?_
  repeat (first | (simp only [go_sem, Int.reduceLT, Int.reduceLE, Int.reduceEq, Int.reduceToNat]) | ((with_reducible refine And.intro ?_ ?_); omega) | ((with_reducible refine isWKr (id := 3) ?_); refine WK_drawAt 3 [[],[],[],[],[],[],[4,5],[4,5,6],[],[],[8,9],[8,9,10],[0,1,4,5,6,7,8,9,10,11],[0,1,4,5,6,7,8,9,10,11,12],[0,1,2,3,4,5,6,7,8,9,10,11,12,13],[0,1,2,3,4,5,6,7,8,9,10,11,12,13,14]] (by kernel_rfl) ?_) | ((with_reducible refine And.intro ?_ ?_); first | (with_reducible rfl) | assumption | (simp only [go_sem]; done)))
  refine WK_for (fun m : Nat => ⟨[.s bi (a * 12) n c, .any, .v (.int .i64 m), .v (.int .i64 ((n : Int) - 1 - m))] ++ junk 24, H.set bi ⟨(revW L a n m).flatMap (rowL .u16 12), ty, kd⟩⟩) (fun m => m ≤ n / 2) (fun m => n / 2 - m) 0 ?_ (Nat.zero_le _) fun m hm => ?_
  · rw [show revW L a n 0 = L from rfl, set_get hb]; exact Weak.slots (by simp [go_sem])
  have hML := revW_len L a n m
  rcases Int.lt_or_le (m : Int) ((n : Int) - 1 - m) with hc | hc
  · have g1 : a + n - 1 - m < (revW L a n m).length := by omega
    have g2 : a + m < (revW L a n m).length := by omega
    have t1 : ((n : Int) - 1 - m).toNat = n - 1 - m := by omega
    have hfl : ((revW L a n m).flatMap (rowL .u16 12)).length = L.length * 12 := by rw [flat_len (rowL .u16 12) 12 (fun _ => rowL_length ..), hML]
    have f1 : seg ((revW L a n m).flatMap (rowL .u16 12)) (a * 12 + (n - 1 - m) * 12) 12 = (rowL .u16 12) ((revW L a n m).getD (a + n - 1 - m) default) := by
      have := flat_seg (rowL .u16 12) 12 (fun _ => rowL_length ..) (revW L a n m) (a + n - 1 - m) (g1)
      rw [getD_at _ (g1), ← this]; congr 1; omega
    have f2 : seg ((revW L a n m).flatMap (rowL .u16 12)) (a * 12 + (m) * 12) 12 = (rowL .u16 12) ((revW L a n m).getD (a + m) default) := by
      have := flat_seg (rowL .u16 12) 12 (fun _ => rowL_length ..) (revW L a n m) (a + m) (g2)
      rw [getD_at _ (g2), ← this]; congr 1; omega
    have hs : revW L a n (m + 1) = swapL (revW L a n m) (a + m) (a + n - 1 - m) := rfl
    unfold swapL at hs
    generalize (revW L a n m).getD (a + n - 1 - m) default = x1 at f1 hs
    generalize (revW L a n m).getD (a + m) default = x2 at f2 hs
    have w1 : wr ((revW L a n m).flatMap (rowL .u16 12)) (a * 12 + (m) * 12) ((rowL .u16 12) (x1)) = ((revW L a n m).set (a + m) (x1)).flatMap (rowL .u16 12) := by
      rw [← flat_set (rowL .u16 12) 12 (fun _ => rowL_length ..) _ _ x1 g2]; congr 1; omega
    have w2 : wr (((revW L a n m).set (a + m) x1).flatMap (rowL .u16 12)) (a * 12 + (n - 1 - m) * 12) ((rowL .u16 12) (x2)) = (((revW L a n m).set (a + m) x1).set (a + n - 1 - m) (x2)).flatMap (rowL .u16 12) := by
      rw [← flat_set (rowL .u16 12) 12 (fun _ => rowL_length ..) _ _ x2 (by rw [List.length_set]; exact g1)]; congr 1; omega
    have hfl2 : (((revW L a n m).set (a + m) x1).flatMap (rowL .u16 12)).length = L.length * 12 := by rw [flat_len (rowL .u16 12) 12 (fun _ => rowL_length ..), List.length_set, hML]
    repeat (first | (simp only [go_sem, Int.reduceLT, Int.reduceLE, Int.reduceEq, Int.reduceToNat, hc, hgs, hk, hlive, t1, f1, f2, w1, w2, hfl, hfl2, List.set_set, Nat.mul_one]) | ((with_reducible refine And.intro ?_ ?_); omega) | ((with_reducible refine isWKr (id := 3) ?_); refine WK_drawAt 3 [[],[],[],[],[],[],[4,5],[4,5,6],[],[],[8,9],[8,9,10],[0,1,4,5,6,7,8,9,10,11],[0,1,4,5,6,7,8,9,10,11,12],[0,1,2,3,4,5,6,7,8,9,10,11,12,13],[0,1,2,3,4,5,6,7,8,9,10,11,12,13,14]] (by kernel_rfl) ?_) | ((with_reducible refine And.intro ?_ ?_); first | (with_reducible rfl) | assumption | (simp only [go_sem]; done)))
    trace_state
    refine EK_again (m + 1) ?_ (by omega) (by omega)
    rw [hs]
    exact Weak.slots (by simp [go_sem] <;> omega)
  · have : m = n / 2 := by omega
    subst this
    repeat (first | (simp only [go_sem, Int.reduceLT, Int.reduceLE, Int.reduceEq, Int.reduceToNat, Int.not_lt.2 hc]) | ((with_reducible refine And.intro ?_ ?_); omega) | ((with_reducible refine isWKr (id := 3) ?_); refine WK_drawAt 3 [[],[],[],[],[],[],[4,5],[4,5,6],[],[],[8,9],[8,9,10],[0,1,4,5,6,7,8,9,10,11],[0,1,4,5,6,7,8,9,10,11,12],[0,1,2,3,4,5,6,7,8,9,10,11,12,13],[0,1,2,3,4,5,6,7,8,9,10,11,12,13,14]] (by kernel_rfl) ?_) | ((with_reducible refine And.intro ?_ ?_); first | (with_reducible rfl) | assumption | (simp only [go_sem]; done)))
    trace_state
    refine ret_at hq _ (.inr rfl) (by simp) ?_
    simp [go_sem]

end Go.Proofs.Ytjkkallcgplgmaa

