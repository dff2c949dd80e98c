/- Contracts of functions of the translated program, by the walk. -/
import Derived.Test.YtheeehjgmifclaaR1b
set_option linter.unusedVariables false
set_option linter.unusedSimpArgs false
set_option maxRecDepth 8000
set_option maxHeartbeats 4000000
namespace Go.Proofs.Ytheeehjgmifclaa
open Go Go.Sx
theorem cel0 (f : Nat → Int) : rowL .u16 24 f = rowL .u16 12 f ++ rowL .u16 12 (fun j => f (12 + j)) := rowL_split .u16 12 12 f
theorem less1 {H : List Blk} {x y : Int} : Cal Try.prog 134 [.v (.int .u16 x), .v (.int .u16 y)] H fun v H' => v = .v (.int .u16 (bits .andNot .u16 x y)) ∧ H' = H := by
  refine cal_fn 6 mixed Try.func134 Try.ntmps134 Try.results134 rfl rfl rfl fun hw cx hx hq => ?_
  simp only [go_sem]
  refine ret_same hq _ (.inl rfl) ?_
  simp only [go_sem]
theorem less {H : List Blk} {f g : Nat → Int} : Cal Try.prog 101 [.a (rowL .u16 12 (f)), .a (rowL .u16 12 (g))] H fun v H' => v = .a (rowL .u16 12 (lessF f g)) ∧ H' = H := by
  refine cal_fn 6 mixed Try.func101 Try.ntmps101 Try.results101 rfl rfl rfl fun hw cx hx hq => ?_
  simp only [go_sem, rowL_rep]
  repeat (refine And.intro (by omega) ?_)
  refine call_ret (mix (h := lessF f g) fun j _ L => less1) (by simp only [go_sem]) ?_
  simp only [go_sem]
  repeat (refine And.intro (by omega) ?_)
  refine ret_cut hq hw _ (.inl rfl) ?_
  simp only [go_sem]

theorem toFrame {H : List Blk} {f : Nat → Int} : Cal Try.prog 107 [.a (rowL .u16 12 (f))] H fun v H' => v = .a (rowL .u16 12 (f)) ∧ H' = H := by
  refine cal_fn 14 mixed Try.func107 Try.ntmps107 Try.results107 rfl rfl rfl fun hw cx hx hq => ?_
  simp only [go_sem, rowL_rep]
  refine WK_for (fun n : Nat => ⟨[.a (rowL .u16 12 (f)), .p H.length 0, .p (H.length + 1) 0, .p (H.length + 2) 0, .v (.int .i64 n)] ++ junk 10, H ++ [⟨rowL .u16 12 (f), 33, .fix⟩, ⟨rowL .u16 12 (fun _ => 0), 40, .fix⟩, ⟨rowL .u16 12 (pfx f (fun _ => 0) n), 40, .fix⟩]⟩) (fun n => n ≤ 12) (fun n => 12 - n) 0 (Weak.slots ?_) ?_ fun n hn => ?_
  · simp [go_sem]
  · simp
  rcases Int.lt_or_le (n : Int) 12 with hc | hc
  · have hj : n < 12 := by omega
    simp only [go_sem, hc, rowL_cel _ _ _ hj]
    repeat (refine And.intro (by omega) ?_)
    refine EK_again (n + 1) ?_ (by omega) (by omega)
    rw [wr_pfx .u16 f _ hj rfl]
    exact Weak.slots (by simp [go_sem])
  · have : n = 12 := by omega
    subst this
    simp only [go_sem, Int.not_lt.2 hc, pfx_all]
    refine ret_cut hq hw _ (.inl rfl) ?_
    simp only [go_sem]
theorem toCel {H : List Blk} {f g : Nat → Int} : Cal Try.prog 58 [.a (rowL .u16 12 (f) ++ rowL .u16 12 (g))] H fun v H' => v = .a (rowL .u16 12 (f) ++ rowL .u16 12 (g)) ∧ H' = H := by
  refine cal_fn 12 mixed Try.func58 Try.ntmps58 Try.results58 rfl rfl rfl fun hw cx hx hq => ?_
  simp only [go_sem, rowL_rep, cel0]
  repeat (refine And.intro (by omega) ?_)
  refine call_ret toFrame (by simp only [go_sem]) ?_
  simp only [go_sem]
  repeat (refine And.intro (by omega) ?_)
  refine call_ret toFrame (by simp only [go_sem]) ?_
  simp only [go_sem]
  repeat (refine And.intro (by omega) ?_)
  refine ret_cut hq hw _ (.inl rfl) ?_
  simp only [go_sem]
end Go.Proofs.Ytheeehjgmifclaa

