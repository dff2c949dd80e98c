/- Contracts of functions of the translated program, by the walk. -/
import Derived.Test.YtheeehjgmifclaaR1b
set_option linter.unusedVariables false
set_option linter.unusedSimpArgs false
set_option maxRecDepth 8000
set_option maxHeartbeats 4000000
namespace Go.Proofs.Ytheeehjgmifclaa
open Go Go.Sx
def joinF (f g : Nat → Int) (j : Nat) : Int := bits .or .u16 (f j) (g j)
theorem cel0 (f : Nat → Int) : rowL .u16 24 f = rowL .u16 12 f ++ rowL .u16 12 (fun j => f (12 + j)) := rowL_split .u16 12 12 f
theorem less1 {H : List Blk} {x y : Int} : Cal Try.prog 134 [.v (.int .u16 x), .v (.int .u16 y)] H fun v H' => v = .v (.int .u16 (bits .andNot .u16 x y)) ∧ H' = H := by
  refine cal_fn 6 mixed Try.func134 Try.ntmps134 Try.results134 rfl rfl rfl fun hw cx hx hq => ?_
  simp only [go_sem]
  refine ret_same hq _ (.inl rfl) ?_
  simp only [go_sem]
theorem less {H : List Blk} {f g : Nat → Int} : Cal Try.prog 101 [.a (rowL .u16 12 (f)), .a (rowL .u16 12 (g))] H fun v H' => v = .a (rowL .u16 12 (lessF f g)) ∧ H' = H := by
  refine cal_fn 6 mixed Try.func101 Try.ntmps101 Try.results101 rfl rfl rfl fun hw cx hx hq => ?_
  simp only [go_sem, rowL_rep]
  repeat (refine And.intro (by omega) ?_)
  refine call_ret (mix (h := lessF f g) fun j _ L => less1) (by simp only [go_sem]) ?_
  simp only [go_sem]
  repeat (refine And.intro (by omega) ?_)
  refine ret_cut hq hw _ (.inl rfl) ?_
  simp only [go_sem]

theorem join1 {H : List Blk} {x y : Int} : Cal Try.prog 127 [.v (.int .u16 x), .v (.int .u16 y)] H fun v H' => v = .v (.int .u16 (bits .or .u16 x y)) ∧ H' = H := by
  refine cal_fn 6 mixed Try.func127 Try.ntmps127 Try.results127 rfl rfl rfl fun hw cx hx hq => ?_
  simp only [go_sem]
  refine ret_same hq _ (.inl rfl) ?_
  simp only [go_sem]
theorem join {H : List Blk} {f g : Nat → Int} : Cal Try.prog 95 [.a (rowL .u16 12 (f)), .a (rowL .u16 12 (g))] H fun v H' => v = .a (rowL .u16 12 (joinF f g)) ∧ H' = H := by
  refine cal_fn 6 mixed Try.func95 Try.ntmps95 Try.results95 rfl rfl rfl fun hw cx hx hq => ?_
  simp only [go_sem, rowL_rep]
  repeat (refine And.intro (by omega) ?_)
  refine call_ret (mix (h := joinF f g) fun j _ L => join1) (by simp only [go_sem]) ?_
  simp only [go_sem]
  repeat (refine And.intro (by omega) ?_)
  refine ret_cut hq hw _ (.inl rfl) ?_
  simp only [go_sem]

theorem eqFrame {H : List Blk} {f g : Nat → Int} : Cal Try.prog 33 [.a (rowL .u16 12 (f)), .a (rowL .u16 12 (g))] H fun v H' => v = .v (.bool (allEq 12 f g)) ∧ H' = H := by
  refine cal_fn 15 mixed Try.func33 Try.ntmps33 Try.results33 rfl rfl rfl fun hw cx hx hq => ?_
  simp only [go_sem]
  refine WK_for (fun n : Nat => ⟨[.a (rowL .u16 12 (f)), .a (rowL .u16 12 (g)), .p H.length 0, .p (H.length + 1) 0, .v (.bool false), .v (.int .i64 n)] ++ junk 11, H ++ [⟨rowL .u16 12 (f), 40, .fix⟩, ⟨rowL .u16 12 (g), 40, .fix⟩]⟩) (fun n => n ≤ 12 ∧ ∀ j, j < n → f j = g j) (fun n => 12 - n) 0 (Weak.slots ?_) ?_ fun n hn => ?_
  · simp [go_sem]
  · simp
  rcases Int.lt_or_le (n : Int) 12 with hc | hc
  · have hj : n < 12 := by omega
    simp only [go_sem, hc]
    refine DK_all _ _ _ [[],[0],[0,1],[],[3],[3,4],[0,1,2,3,4,5]] (by kernel_rfl) ?_
    simp only [go_sem, rowL_cel _ _ _ hj]
    repeat (refine And.intro (by omega) ?_)
    refine ⟨fun e => ?_, fun e => ?_⟩
    · refine ret_cut hq hw _ (.inl rfl) ?_
      simp only [go_sem]
      have : allEq 12 f g = false := by
        rw [Bool.eq_false_iff]; intro h3; exact e (allEq_iff.1 h3 n hj)
      rw [this]
    · repeat (refine And.intro (by omega) ?_)
      refine EK_again (n + 1) (Weak.slots (by simp [go_sem])) ⟨by omega, fun j hj => ?_⟩ (by omega)
      by_cases e2 : j = n
      · subst e2; exact e
      · exact hn.2 j (by omega)
  · have : n = 12 := by omega
    subst this
    simp only [go_sem, Int.not_lt.2 hc]
    refine ret_cut hq hw _ (.inl rfl) ?_
    simp only [go_sem]
    rw [allEq_iff.2 hn.2]
end Go.Proofs.Ytheeehjgmifclaa

