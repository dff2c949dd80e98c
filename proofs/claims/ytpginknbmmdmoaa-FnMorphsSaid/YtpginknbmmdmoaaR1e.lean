/- Contracts of functions of the translated program, by the walk. -/
import Derived.Test.YtpginknbmmdmoaaR1d
set_option linter.unusedVariables false
set_option linter.unusedSimpArgs false
set_option maxRecDepth 8000
set_option maxHeartbeats 4000000
namespace Go.Proofs.Ytpginknbmmdmoaa
open Go Go.Sx
theorem allEq_self (n : Nat) (f : Nat → Int) : allEq n f f = true := allEq_iff.2 fun _ _ => rfl
theorem most_eq (f g e : Nat → Int) : joinF (joinF (meetF f g) (meetF f e)) (meetF g e) = mostF f g e := rfl
theorem majority {H : List Blk} {f g e : Nat → Int} : Cal Try.prog 97 [.a (rowL .u16 12 (f)), .a (rowL .u16 12 (g)), .a (rowL .u16 12 (e))] H fun v H' => v = .a (rowL .u16 12 (mostF f g e)) ∧ H' = H := by
  refine cal_fn 15 mixed Try.func97 Try.ntmps97 Try.results97 rfl rfl rfl fun hw cx hx hq => ?_
  simp only [go_sem, rowL_rep]
  refine DK_all _ _ _ [[],[],[0,1],[],[],[0,1,2,3,4],[0,1,2,3,4,5],[],[],[0,1,2,3,4,5,6,7,8],[0,1,2,3,4,5,6,7,8,9],[0,1,2,3,4,5,6,7,8,9,10]] (by kernel_rfl) ?_
  simp only [go_sem]
  repeat (refine And.intro (by omega) ?_)
  refine mcall_ret meet (by simp only [go_sem]) (by simp only [go_sem]) ?_
  simp only [go_sem]
  repeat (refine And.intro (by omega) ?_)
  refine mcall_ret meet (by simp only [go_sem]) (by simp only [go_sem]) ?_
  simp only [go_sem]
  refine mcall_ret join (by simp only [go_sem]) (by simp only [go_sem]) ?_
  simp only [go_sem]
  repeat (refine And.intro (by omega) ?_)
  refine mcall_ret meet (by simp only [go_sem]) (by simp only [go_sem]) ?_
  simp only [go_sem]
  refine mcall_ret join (by simp only [go_sem]) (by simp only [go_sem]) ?_
  simp only [go_sem, most_eq]
  repeat (refine And.intro (by omega) ?_)
  refine ret_cut hq hw _ (.inl rfl) ?_
  simp only [go_sem]
theorem implMajorityOf {H : List Blk} {f g e : Nat → Int} : Cal Try.prog 62 [.a (rowL .u16 12 (f)), .a (rowL .u16 12 (g)), .a (rowL .u16 12 (e))] H fun v H' => v = .t [.a (rowL .u16 12 (if (okF f && (okF g && okF e)) = true then mostF f g e else fun _ => 0)), .v (.int .i64 (if (okF f && (okF g && okF e)) = true then 0 else 1))] ∧ H' = H := by
  refine cal_fn 16 mixed Try.func62 Try.ntmps62 Try.results62 rfl rfl rfl fun hw cx hx hq => ?_
  simp only [go_sem, rowL_rep]
  repeat (refine And.intro (by omega) ?_)
  refine call_ret (areFrames3 (At.mk' 4 rfl rfl)) (by simp only [go_sem]) ?_
  cases e1 : (okF f && (okF g && okF e))
  · simp only [go_sem, rowL_rep]
    refine ret_cut hq hw _ (.inl rfl) ?_
    simp [go_sem, e1]
  simp only [go_sem]
  repeat (refine And.intro (by omega) ?_)
  refine call_ret majority (by simp only [go_sem]) ?_
  simp only [go_sem]
  repeat (refine And.intro (by omega) ?_)
  refine ret_cut hq hw _ (.inl rfl) ?_
  simp [go_sem, e1]
end Go.Proofs.Ytpginknbmmdmoaa

