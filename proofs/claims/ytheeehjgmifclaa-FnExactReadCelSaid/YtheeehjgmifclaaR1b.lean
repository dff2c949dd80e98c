/- Contracts of functions of the translated program, by the walk. -/
import Derived.Test.YtheeehjgmifclaaR1a
set_option linter.unusedVariables false
set_option linter.unusedSimpArgs false
set_option maxRecDepth 8000
set_option maxHeartbeats 4000000
namespace Go.Proofs.Ytheeehjgmifclaa
open Go Go.Sx
/-- (Frame).mix, whatever the rows are mixed by. -/
theorem mix {H : List Blk} {f g h : Nat → Int} {fn : Nat} {cs : List V} (hop : ∀ j, j < 12 → ∀ L, Cal Try.prog fn (.v (.int .u16 (f j)) :: .v (.int .u16 (g j)) :: cs) (H ++ L) fun v H' => v = .v (.int .u16 (h j)) ∧ H' = H ++ L) :
    Cal Try.prog 126 [.a (rowL .u16 12 (f)), .a (rowL .u16 12 (g)), .f fn cs] H fun v H' => v = .a (rowL .u16 12 (h)) ∧ H' = H := by
  refine cal_fn 21 mixed Try.func126 Try.ntmps126 Try.results126 rfl rfl rfl fun hw cx hx hq => ?_
  simp only [go_sem, rowL_rep]
  refine WK_for (fun n : Nat => ⟨[.a (rowL .u16 12 (f)), .a (rowL .u16 12 (g)), .f fn cs, .p H.length 0, .p (H.length + 1) 0, .any, .p (H.length + 2) 0, .any, .any, .a (rowL .u16 12 (f)), .v (.int .i64 n)] ++ junk 13, H ++ [⟨rowL .u16 12 (pfx h f n), 40, .fix⟩, ⟨rowL .u16 12 (g), 40, .fix⟩, ⟨rowL .u16 12 (fun _ => 0), 40, .fix⟩]⟩) (fun n => n ≤ 12) (fun n => 12 - n) 0 (Weak.slots ?_) ?_ fun n hn => ?_
  · simp [go_sem]
  · simp
  rcases Int.lt_or_le (n : Int) 12 with hc | hc
  · have hj : n < 12 := by omega
    simp only [go_sem, hc, rowL_cel _ _ _ hj]
    repeat (refine And.intro (by omega) ?_)
    refine call_ret (hop n hj _) (by simp only [go_sem]) ?_
    simp only [go_sem]
    repeat (refine And.intro (by omega) ?_)
    refine EK_again (n + 1) ?_ (by omega) (by omega)
    rw [wr_pfx .u16 h f hj rfl]
    exact Weak.slots (by simp [go_sem])
  · have : n = 12 := by omega
    subst this
    simp only [go_sem, Int.not_lt.2 hc, pfx_all]
    refine ret_cut hq hw _ (.inl rfl) ?_
    simp only [go_sem]
end Go.Proofs.Ytheeehjgmifclaa

