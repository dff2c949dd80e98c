/- Contracts of functions of the translated program, by the walk. -/
import Derived.Test.YtpginknbmmdmoaaR1b
set_option linter.unusedVariables false
set_option linter.unusedSimpArgs false
set_option maxRecDepth 8000
set_option maxHeartbeats 4000000
namespace Go.Proofs.Ytpginknbmmdmoaa
open Go Go.Sx
def joinF (f g : Nat → Int) (j : Nat) : Int := bits .or .u16 (f j) (g j)
def meetF (f g : Nat → Int) (j : Nat) : Int := bits .and .u16 (f j) (g j)
def mostF (f g h : Nat → Int) (j : Nat) : Int := bits .or .u16 (bits .or .u16 (bits .and .u16 (f j) (g j)) (bits .and .u16 (f j) (h j))) (bits .and .u16 (g j) (h j))
theorem join1 {H : List Blk} {x y : Int} : Cal Try.prog 172 [.v (.int .u16 x), .v (.int .u16 y)] H fun v H' => v = .v (.int .u16 (bits .or .u16 x y)) ∧ H' = H := by
  refine cal_fn 6 mixed Try.func172 Try.ntmps172 Try.results172 rfl rfl rfl fun hw cx hx hq => ?_
  simp only [go_sem]
  refine ret_same hq _ (.inl rfl) ?_
  simp only [go_sem]
theorem join {H : List Blk} {f g : Nat → Int} : Cal Try.prog 151 [.a (rowL .u16 12 (f)), .a (rowL .u16 12 (g))] H fun v H' => v = .a (rowL .u16 12 (joinF f g)) ∧ H' = H := by
  refine cal_fn 6 mixed Try.func151 Try.ntmps151 Try.results151 rfl rfl rfl fun hw cx hx hq => ?_
  simp only [go_sem, rowL_rep]
  repeat (refine And.intro (by omega) ?_)
  refine call_ret (mix (h := joinF f g) fun j _ L => join1) (by simp only [go_sem]) ?_
  simp only [go_sem]
  repeat (refine And.intro (by omega) ?_)
  refine ret_cut hq hw _ (.inl rfl) ?_
  simp only [go_sem]

theorem meet1 {H : List Blk} {x y : Int} : Cal Try.prog 171 [.v (.int .u16 x), .v (.int .u16 y)] H fun v H' => v = .v (.int .u16 (bits .and .u16 x y)) ∧ H' = H := by
  refine cal_fn 6 mixed Try.func171 Try.ntmps171 Try.results171 rfl rfl rfl fun hw cx hx hq => ?_
  simp only [go_sem]
  refine ret_same hq _ (.inl rfl) ?_
  simp only [go_sem]
theorem meet {H : List Blk} {f g : Nat → Int} : Cal Try.prog 147 [.a (rowL .u16 12 (f)), .a (rowL .u16 12 (g))] H fun v H' => v = .a (rowL .u16 12 (meetF f g)) ∧ H' = H := by
  refine cal_fn 6 mixed Try.func147 Try.ntmps147 Try.results147 rfl rfl rfl fun hw cx hx hq => ?_
  simp only [go_sem, rowL_rep]
  repeat (refine And.intro (by omega) ?_)
  refine call_ret (mix (h := meetF f g) fun j _ L => meet1) (by simp only [go_sem]) ?_
  simp only [go_sem]
  repeat (refine And.intro (by omega) ?_)
  refine ret_cut hq hw _ (.inl rfl) ?_
  simp only [go_sem]
end Go.Proofs.Ytpginknbmmdmoaa

