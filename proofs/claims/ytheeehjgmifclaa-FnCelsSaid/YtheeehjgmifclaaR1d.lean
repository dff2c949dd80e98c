/- Contracts of functions of the translated program, by the walk. -/
import Derived.Test.YtheeehjgmifclaaR1c
set_option linter.unusedVariables false
set_option linter.unusedSimpArgs false
set_option maxRecDepth 8000
set_option maxHeartbeats 4000000
namespace Go.Proofs.Ytheeehjgmifclaa
open Go Go.Sx
theorem zeros_zero (zs : List V) : zerosL zs 0 = [] := rfl
theorem zeros_succ (zs : List V) (n : Nat) : zerosL zs (n + 1) = zs ++ zerosL zs n := rfl
attribute [go_sem] zeros_zero zeros_succ
def okC (f g : Nat → Int) : Bool := okF f && okF g && allEq 12 (lessF f g) (fun _ => 0)
theorem areFrames2 {H : List Blk} {i off : Nat} {cap : Cap} {f g : Nat → Int} {b : Blk} (h : At H i off (rowL .u16 12 (f) ++ rowL .u16 12 (g)) b) :
    Cal Try.prog 100 [.s i off 2 cap] H fun v H' => v = .v (.bool (okF f && okF g)) ∧ H' = H := by
  have := areFrames (l := [f, g]) (cap := cap) (by simpa using h) (by simp)
  simpa using this
theorem l05Cel {H : List Blk} {i off : Nat} {f g : Nat → Int} {b : Blk} (h : At H i off (rowL .u16 12 (f) ++ rowL .u16 12 (g)) b) : Cal Try.prog 98 [.p i off] H fun v H' => v = .v (.bool (okC f g)) ∧ H' = H := by
  refine cal_fn 23 mixed Try.func98 Try.ntmps98 Try.results98 rfl rfl rfl fun hw cx hx hq => ?_
  have hl := h.left
  have hr := h.right
  rw [rowL_length] at hr
  simp only [go_sem]
  refine call_ret (l01Ok hl) (by simp only [go_sem]) ?_
  cases e : okF f
  · simp only [go_sem]
    refine ret_same hq _ (.inl rfl) ?_
    simp [go_sem, okC, e]
  · simp only [go_sem]
    refine call_ret (l01Ok hr) (by simp only [go_sem]) ?_
    cases e2 : okF g
    · simp only [go_sem]
      refine ret_same hq _ (.inl rfl) ?_
      simp [go_sem, okC, e, e2]
    · simp only [go_sem]
      refine DK_all _ _ _ [[],[0],[0,1],[],[3],[3,4],[0,1,2,3,4,5],[],[0,1,2,3,4,5,6,7],[0,1,2,3,4,5,6,7,8]] (by kernel_rfl) ?_
      simp only [go_sem]
      refine mcall_ret (l01Less hl hr) (by simp only [go_sem]) (by simp only [go_sem]) ?_
      simp only [go_sem, rowL_rep]
      refine ret_same hq _ (.inl rfl) ?_
      simp [go_sem, okC, e, e2]
theorem implValidCel {H : List Blk} {f g : Nat → Int} : Cal Try.prog 52 [.a (rowL .u16 12 (f) ++ rowL .u16 12 (g))] H fun v H' => v = .v (.bool (okC f g)) ∧ H' = H := by
  refine cal_fn 17 mixed Try.func52 Try.ntmps52 Try.results52 rfl rfl rfl fun hw cx hx hq => ?_
  simp only [go_sem, rowL_rep]
  repeat (refine And.intro (by omega) ?_)
  refine call_ret (areFrames2 (At.mk' 1 rfl rfl)) (by simp only [go_sem]) ?_
  cases e : (okF f && okF g)
  · simp only [go_sem]
    refine ret_cut hq hw _ (.inl rfl) ?_
    simp [go_sem, okC, e]
  · simp only [go_sem, rowL_rep]
    repeat (refine And.intro (by omega) ?_)
    refine call_ret less (by simp only [go_sem]) ?_
    simp only [go_sem, rowL_rep]
    refine ret_cut hq hw _ (.inl rfl) ?_
    simp [go_sem, okC, e]
end Go.Proofs.Ytheeehjgmifclaa

