/- Contracts of functions of the translated program, by the walk. -/
import Derived.Test.YtjkkallcgplgmaaD1
set_option linter.unusedVariables false
set_option linter.unusedSimpArgs false
set_option maxRecDepth 8000
set_option maxHeartbeats 4000000
namespace Go.Proofs.Ytjkkallcgplgmaa
open Go Go.Sx
/-- The numbers from 0 on. -/
def plainL (n : Nat) : List Int := (List.range n).map fun j : Nat => (j : Int)
theorem plainL_len (n : Nat) : (plainL n).length = n := by simp [plainL]
theorem plainL_succ (n : Nat) : plainL (n + 1) = plainL n ++ [(n : Int)] := by unfold plainL; rw [List.range_succ, List.map_append]; rfl
theorem l04Plain {H : List Blk} {n : Nat} (hn : n ≤ 1000000) :
    Cal Try.prog 63 [.v (.int .i64 n)] H fun u H' => u = .s H.length 0 n (.u 0) ∧ H' = H ++ [⟨(plainL n).flatMap i64C, 2, .own 1⟩] := by
  refine cal_fn 15 mixed Try.func63 Try.ntmps63 Try.results63 rfl rfl rfl fun hw cx hx hq => ?_
  repeat (first | (simp only [go_sem, Int.reduceLT, Int.reduceLE, Int.reduceEq, Int.reduceToNat]) | ((with_reducible refine And.intro ?_ ?_); omega) | ((with_reducible refine And.intro ?_ ?_); first | (with_reducible rfl) | assumption | (simp only [go_sem]; done)))
  refine WK_for (fun m : Nat => ⟨[.v (.int .i64 n), .any, .any, .s H.length 0 m (.u 0), .v (.int .i64 m)] ++ junk 11, H ++ [⟨(plainL m).flatMap i64C, 2, .own 1⟩]⟩) (fun m => m ≤ n) (fun m => n - m) 0 (Weak.slots ?_) ?_ fun m hm => ?_
  · simp [go_sem, plainL]
  · simp
  rcases Int.lt_or_le (m : Int) n with hc | hc
  · have hn1 : norefH H.length H := norefH_wf hw (Nat.le_refl _)
    have hn2 : norefs H.length ((plainL m).flatMap i64C) = true := flat_i64.norefs _ _
    have hl2 : ((plainL m).flatMap i64C).length = m := by rw [flat_i64.flen, Nat.mul_one, plainL_len]
    have hd1 : (H.length + 1 = H.length) = False := eq_false (by omega)
    repeat (first | (simp only [go_sem, Int.reduceLT, Int.reduceLE, Int.reduceEq, Int.reduceToNat, hc, hn1, hn2, hl2, hd1, hx]) | ((with_reducible refine And.intro ?_ ?_); omega) | ((with_reducible refine And.intro ?_ ?_); first | (with_reducible rfl) | assumption | (simp only [go_sem]; done)))
    refine EK_again (m + 1) ?_ (by omega) (by omega)
    rw [plainL_succ, flat_snoc]
    exact Weak.keepN rfl (by simp [go_sem] <;> omega) (by simp [hx]) (by simp [go_sem, flat_i64.lts, i64C] <;> omega) (hw.app (by simp [go_sem, flat_i64.lts, i64C] <;> omega))
  · have : m = n := by omega
    subst this
    repeat (first | (simp only [go_sem, Int.reduceLT, Int.reduceLE, Int.reduceEq, Int.reduceToNat, Int.not_lt.2 hc]) | ((with_reducible refine And.intro ?_ ?_); omega) | ((with_reducible refine And.intro ?_ ?_); first | (with_reducible rfl) | assumption | (simp only [go_sem]; done)))
    refine ret_at hq _ (.inl rfl) (by simp) ?_
    simp [go_sem]
end Go.Proofs.Ytjkkallcgplgmaa

