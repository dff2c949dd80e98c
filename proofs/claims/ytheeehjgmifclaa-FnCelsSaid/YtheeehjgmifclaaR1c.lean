/- Contracts of functions of the translated program, by the walk. -/
import Derived.Test.YtheeehjgmifclaaR1b
set_option linter.unusedVariables false
set_option linter.unusedSimpArgs false
set_option maxRecDepth 8000
set_option maxHeartbeats 4000000
namespace Go.Proofs.Ytheeehjgmifclaa
open Go Go.Sx
def joinF (f g : Nat → Int) (j : Nat) : Int := bits .or .u16 (f j) (g j)
theorem cel0 (f : Nat → Int) : rowL .u16 24 f = rowL .u16 12 f ++ rowL .u16 12 (fun j => f (12 + j)) := rowL_split .u16 12 12 f
theorem okV24 (f g : Nat → Int) : okV (List.replicate 24 (.i .u16)) (rowL .u16 12 f ++ rowL .u16 12 g) = true := rowL_okV2 .u16 12 12 f g
theorem eqL24 (f g f' g' : Nat → Int) : eqL (rowL .u16 12 f ++ rowL .u16 12 g) (rowL .u16 12 f' ++ rowL .u16 12 g') = (allEq 12 f f' && allEq 12 g g') := by rw [rowL_eqL2, rowL_eqL]

theorem less1 {H : List Blk} {x y : Int} : Cal Try.prog 134 [.v (.int .u16 x), .v (.int .u16 y)] H fun v H' => v = .v (.int .u16 (bits .andNot .u16 x y)) ∧ H' = H := by
  refine cal_fn 6 mixed Try.func134 Try.ntmps134 Try.results134 rfl rfl rfl fun hw cx hx hq => ?_
  simp only [go_sem]
  refine ret_same hq _ (.inl rfl) ?_
  simp only [go_sem]
theorem less {H : List Blk} {f g : Nat → Int} : Cal Try.prog 101 [.a (rowL .u16 12 (f)), .a (rowL .u16 12 (g))] H fun v H' => v = .a (rowL .u16 12 (lessF f g)) ∧ H' = H := by
  refine cal_fn 6 mixed Try.func101 Try.ntmps101 Try.results101 rfl rfl rfl fun hw cx hx hq => ?_
  simp only [go_sem, rowL_rep]
  repeat (refine And.intro (by omega) ?_)
  refine call_ret (mix (h := lessF f g) fun j _ L => less1) (by simp only [go_sem]) ?_
  simp only [go_sem]
  repeat (refine And.intro (by omega) ?_)
  refine ret_cut hq hw _ (.inl rfl) ?_
  simp only [go_sem]

theorem join1 {H : List Blk} {x y : Int} : Cal Try.prog 127 [.v (.int .u16 x), .v (.int .u16 y)] H fun v H' => v = .v (.int .u16 (bits .or .u16 x y)) ∧ H' = H := by
  refine cal_fn 6 mixed Try.func127 Try.ntmps127 Try.results127 rfl rfl rfl fun hw cx hx hq => ?_
  simp only [go_sem]
  refine ret_same hq _ (.inl rfl) ?_
  simp only [go_sem]
theorem join {H : List Blk} {f g : Nat → Int} : Cal Try.prog 95 [.a (rowL .u16 12 (f)), .a (rowL .u16 12 (g))] H fun v H' => v = .a (rowL .u16 12 (joinF f g)) ∧ H' = H := by
  refine cal_fn 6 mixed Try.func95 Try.ntmps95 Try.results95 rfl rfl rfl fun hw cx hx hq => ?_
  simp only [go_sem, rowL_rep]
  repeat (refine And.intro (by omega) ?_)
  refine call_ret (mix (h := joinF f g) fun j _ L => join1) (by simp only [go_sem]) ?_
  simp only [go_sem]
  repeat (refine And.intro (by omega) ?_)
  refine ret_cut hq hw _ (.inl rfl) ?_
  simp only [go_sem]

theorem l01Join {H : List Blk} {i off j o2 : Nat} {f g : Nat → Int} {b b2 : Blk} (h : At H i off (rowL .u16 12 (f)) b) (h2 : At H j o2 (rowL .u16 12 (g)) b2) : Cal Try.prog 119 [.p i off, .p j o2] H fun v H' => v = .a (rowL .u16 12 (joinF f g)) ∧ H' = H := by
  refine cal_fn 24 mixed Try.func119 Try.ntmps119 Try.results119 rfl rfl rfl fun hw cx hx hq => ?_
  simp only [go_sem, rowL_rep]

  refine WK_for (fun n : Nat => ⟨[.p i off, .p j o2, .any, .any, .p H.length 0, .p (H.length + 1) 0, .v (.int .i64 n)] ++ junk 19, H ++ [⟨rowL .u16 12 (fun _ => 0), 40, .fix⟩, ⟨rowL .u16 12 (pfx (joinF f g) (fun _ => 0) n), 40, .fix⟩]⟩) (fun n => n ≤ 12) (fun n => 12 - n) 0 (Weak.slots ?_) ?_ fun n hn => ?_
  · simp [go_sem, pfx_zero]
  · simp
  rcases Int.lt_or_le (n : Int) 12 with hc | hc
  · simp only [go_sem, hc]
    refine DK_all _ _ _ [[],[],[],[1],[1,2,3],[1,2,3,4],[],[],[6],[6,7,8],[6,7,8,9],[1,2,3,4,5,6,7,8,9,10],[0,1,2,3,4,5,6,7,8,9,10,11],[0,1,2,3,4,5,6,7,8,9,10,11,12]] (by kernel_rfl) ?_
    simp only [go_sem, h.lt, h.get, h.live, h.cel (show n < 12 by omega), h2.lt, h2.get, h2.live, h2.cel (show n < 12 by omega)]
    have := h.len (by simp [go_sem])
    have := h2.len (by simp [go_sem])
    simp only [go_sem] at *
    repeat (refine And.intro (by omega) ?_)
    refine EK_again (n + 1) ?_ (by omega) (by omega)
    rw [wr_pfx .u16 (joinF f g) _ (show n < 12 by omega) (show bits .or .u16 (f n) (g n) = joinF f g n from rfl)]
    exact Weak.slots (by simp [go_sem])
  · have : n = 12 := by omega
    subst this
    simp only [go_sem, Int.not_lt.2 hc, pfx_all]
    refine ret_cut hq hw _ (.inl rfl) ?_
    simp only [go_sem]

end Go.Proofs.Ytheeehjgmifclaa

