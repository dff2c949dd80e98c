/- Contracts of functions of the translated program, by the walk. -/
import Derived.Test.YtjkkallcgplgmaaR1b
set_option linter.unusedVariables false
set_option linter.unusedSimpArgs false
set_option maxRecDepth 8000
set_option maxHeartbeats 4000000
namespace Go.Proofs.Ytjkkallcgplgmaa
open Go Go.Sx
theorem toFrame {H : List Blk} {f : Nat → Int} : Cal Try.prog 60 [.a (rowL .u16 12 (f))] H fun v H' => v = .a (rowL .u16 12 (f)) ∧ H' = H := by
  refine cal_fn 14 mixed Try.func60 Try.ntmps60 Try.results60 rfl rfl rfl fun hw cx hx hq => ?_
  simp only [go_sem, rowL_rep]
  refine WK_for (fun n : Nat => ⟨[.a (rowL .u16 12 (f)), .p H.length 0, .p (H.length + 1) 0, .p (H.length + 2) 0, .v (.int .i64 n)] ++ junk 10, H ++ [⟨rowL .u16 12 (f), 63, .fix⟩, ⟨rowL .u16 12 (fun _ => 0), 64, .fix⟩, ⟨rowL .u16 12 (pfx f (fun _ => 0) n), 64, .fix⟩]⟩) (fun n => n ≤ 12) (fun n => 12 - n) 0 (Weak.slots ?_) ?_ fun n hn => ?_
  · simp [go_sem]
  · simp
  rcases Int.lt_or_le (n : Int) 12 with hc | hc
  · have hj : n < 12 := by omega
    simp only [go_sem, hc, rowL_cel _ _ _ hj]
    repeat (refine And.intro (by omega) ?_)
    refine EK_again (n + 1) ?_ (by omega) (by omega)
    rw [wr_pfx .u16 f _ hj rfl]
    exact Weak.slots (by simp [go_sem])
  · have : n = 12 := by omega
    subst this
    simp only [go_sem, Int.not_lt.2 hc, pfx_all]
    refine ret_cut hq hw _ (.inl rfl) ?_
    simp only [go_sem]
theorem eqFrame {H : List Blk} {f g : Nat → Int} : Cal Try.prog 72 [.a (rowL .u16 12 (f)), .a (rowL .u16 12 (g))] H fun v H' => v = .v (.bool (allEq 12 f g)) ∧ H' = H := by
  refine cal_fn 15 mixed Try.func72 Try.ntmps72 Try.results72 rfl rfl rfl fun hw cx hx hq => ?_
  simp only [go_sem]
  refine WK_for (fun n : Nat => ⟨[.a (rowL .u16 12 (f)), .a (rowL .u16 12 (g)), .p H.length 0, .p (H.length + 1) 0, .v (.bool false), .v (.int .i64 n)] ++ junk 11, H ++ [⟨rowL .u16 12 (f), 64, .fix⟩, ⟨rowL .u16 12 (g), 64, .fix⟩]⟩) (fun n => n ≤ 12 ∧ ∀ j, j < n → f j = g j) (fun n => 12 - n) 0 (Weak.slots ?_) ?_ fun n hn => ?_
  · simp [go_sem]
  · simp
  rcases Int.lt_or_le (n : Int) 12 with hc | hc
  · have hj : n < 12 := by omega
    simp only [go_sem, hc]
    refine DK_all _ _ _ [[],[0],[0,1],[],[3],[3,4],[0,1,2,3,4,5]] (by kernel_rfl) ?_
    simp only [go_sem, rowL_cel _ _ _ hj]
    repeat (refine And.intro (by omega) ?_)
    refine ⟨fun e => ?_, fun e => ?_⟩
    · refine ret_cut hq hw _ (.inl rfl) ?_
      simp only [go_sem]
      have : allEq 12 f g = false := by
        rw [Bool.eq_false_iff]; intro h3; exact e (allEq_iff.1 h3 n hj)
      rw [this]
    · repeat (refine And.intro (by omega) ?_)
      refine EK_again (n + 1) (Weak.slots (by simp [go_sem])) ⟨by omega, fun j hj => ?_⟩ (by omega)
      by_cases e2 : j = n
      · subst e2; exact e
      · exact hn.2 j (by omega)
  · have : n = 12 := by omega
    subst this
    simp only [go_sem, Int.not_lt.2 hc]
    refine ret_cut hq hw _ (.inl rfl) ?_
    simp only [go_sem]
    rw [allEq_iff.2 hn.2]
end Go.Proofs.Ytjkkallcgplgmaa

