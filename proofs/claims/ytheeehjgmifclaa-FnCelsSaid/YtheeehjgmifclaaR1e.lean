/- Contracts of functions of the translated program, by the walk. -/
import Derived.Test.YtheeehjgmifclaaR1d
set_option linter.unusedVariables false
set_option linter.unusedSimpArgs false
set_option maxRecDepth 8000
set_option maxHeartbeats 4000000
namespace Go.Proofs.Ytheeehjgmifclaa
open Go Go.Sx
theorem allEq_self (n : Nat) (f : Nat → Int) : allEq n f f = true := allEq_iff.2 fun _ _ => rfl
theorem implShownBy {H : List Blk} {f g : Nat → Int} : Cal Try.prog 51 [.a (rowL .u16 12 (f) ++ rowL .u16 12 (g))] H fun v H' => v = .t [.a (rowL .u16 12 (if okC f g = true then f else fun _ => 0)), .v (.int .i64 (if okC f g = true then 0 else 1))] ∧ H' = H := by
  refine cal_fn 9 mixed Try.func51 Try.ntmps51 Try.results51 rfl rfl rfl fun hw cx hx hq => ?_
  simp only [go_sem, rowL_rep]
  repeat (refine And.intro (by omega) ?_)
  refine call_ret implValidCel (by simp only [go_sem]) ?_
  cases e1 : okC f g
  · simp only [go_sem, rowL_rep]
    repeat (refine And.intro (by omega) ?_)
    refine ret_cut hq hw _ (.inl rfl) ?_
    simp [go_sem, e1]
  · simp only [go_sem, rowL_rep]
    repeat (refine And.intro (by omega) ?_)
    refine ret_cut hq hw _ (.inl rfl) ?_
    simp [go_sem, e1]
theorem implCelFrom {H : List Blk} {f g : Nat → Int} : Cal Try.prog 56 [.a (rowL .u16 12 (f)), .a (rowL .u16 12 (g))] H fun v H' => v = .t [.a (rowL .u16 12 (if (okF f && okF g) = true then f else fun _ => 0) ++ rowL .u16 12 (if (okF f && okF g) = true then joinF f g else fun _ => 0)), .v (.int .i64 (if (okF f && okF g) = true then 0 else 1))] ∧ H' = H := by
  refine cal_fn 15 mixed Try.func56 Try.ntmps56 Try.results56 rfl rfl rfl fun hw cx hx hq => ?_
  simp only [go_sem, rowL_rep, cel0]
  repeat (refine And.intro (by omega) ?_)
  refine call_ret (areFrames2 (At.mk' 3 rfl rfl)) (by simp only [go_sem]) ?_
  cases e1 : (okF f && okF g)
  · simp only [go_sem, rowL_rep, cel0]
    refine ret_cut hq hw _ (.inl rfl) ?_
    simp [go_sem, e1]
  simp only [go_sem]
  refine DK_all _ _ _ [[],[],[],[1,2],[0,1,2,3],[0,1,2,3,4],[0,1,2,3,4,5]] (by kernel_rfl) ?_
  simp only [go_sem]
  repeat (refine And.intro (by omega) ?_)
  refine mcall_ret join (by simp only [go_sem]) (by simp only [go_sem]) ?_
  simp only [go_sem, rowL_rep, cel0]
  repeat (refine And.intro (by omega) ?_)
  refine ret_cut hq hw _ (.inl rfl) ?_
  simp [go_sem, e1]
theorem l05Over {H : List Blk} {i off j o2 : Nat} {f g f' g' : Nat → Int} {b b2 : Blk} (h : At H i off (rowL .u16 12 (f) ++ rowL .u16 12 (g)) b) (h2 : At H j o2 (rowL .u16 12 (f') ++ rowL .u16 12 (g')) b2) : Cal Try.prog 99 [.p i off, .p j o2] H fun v H' => v = .a (rowL .u16 12 (joinF f (lessF f' g)) ++ rowL .u16 12 (joinF g g')) ∧ H' = H := by
  refine cal_fn 23 mixed Try.func99 Try.ntmps99 Try.results99 rfl rfl rfl fun hw cx hx hq => ?_
  have hl := h.left
  have hr := h.right
  have hl2 := h2.left
  have hr2 := h2.right
  rw [rowL_length] at hr hr2
  simp only [go_sem, rowL_rep, cel0]
  refine DK_all _ _ _ [[],[0],[0,1],[],[3],[3,4],[0,1,2,3,4,5],[],[0,1,2,3,4,5,6,7]] (by kernel_rfl) ?_
  simp only [go_sem]
  refine mcall_ret (l01Less hl2.app hr.app) (by simp only [go_sem]) (by simp only [go_sem]) ?_
  simp only [go_sem, rowL_rep]
  repeat (refine And.intro (by omega) ?_)
  refine DK_all _ _ _ [[],[0],[0,1],[0,1,2],[],[4],[4,5],[],[7],[7,8],[0,1,2,3,4,5,6,7,8,9],[0,1,2,3,4,5,6,7,8,9,10],[0,1,2,3,4,5,6,7,8,9,10,11]] (by kernel_rfl) ?_
  simp only [go_sem]
  refine mcall_ret (l01Join hl.app (At.mk' 1 rfl rfl)) (by simp only [go_sem]) (by simp only [go_sem]) ?_
  simp only [go_sem]
  refine mcall_ret (l01Join hr.app hr2.app) (by simp only [go_sem]) (by simp only [go_sem]) ?_
  simp only [go_sem, rowL_rep, cel0]
  repeat (refine And.intro (by omega) ?_)
  refine ret_cut hq hw _ (.inl rfl) ?_
  simp only [go_sem]
theorem over {H : List Blk} {f g f' g' : Nat → Int} : Cal Try.prog 97 [.a (rowL .u16 12 (f) ++ rowL .u16 12 (g)), .a (rowL .u16 12 (f') ++ rowL .u16 12 (g'))] H fun v H' => v = .a (rowL .u16 12 (joinF f (lessF f' g)) ++ rowL .u16 12 (joinF g g')) ∧ H' = H := by
  refine cal_fn 17 mixed Try.func97 Try.ntmps97 Try.results97 rfl rfl rfl fun hw cx hx hq => ?_
  simp only [go_sem, rowL_rep, cel0]
  refine DK_all _ _ _ [[],[0],[],[2],[],[4],[2,3,4,5],[0,1,2,3,4,5,6],[],[8],[],[10],[0,1,2,3,4,5,6,7,8,9,10,11],[0,1,2,3,4,5,6,7,8,9,10,11,12],[0,1,2,3,4,5,6,7,8,9,10,11,12,13]] (by kernel_rfl) ?_
  simp only [go_sem]
  repeat (refine And.intro (by omega) ?_)
  refine mcall_ret less (by simp only [go_sem]) (by simp only [go_sem]) ?_
  simp only [go_sem]
  refine mcall_ret join (by simp only [go_sem]) (by simp only [go_sem]) ?_
  simp only [go_sem]
  repeat (refine And.intro (by omega) ?_)
  refine mcall_ret join (by simp only [go_sem]) (by simp only [go_sem]) ?_
  simp only [go_sem, rowL_rep, cel0]
  repeat (refine And.intro (by omega) ?_)
  refine ret_cut hq hw _ (.inl rfl) ?_
  simp only [go_sem]

theorem specLayOver {H : List Blk} {f g f' g' : Nat → Int} : Cal Try.prog 50 [.a (rowL .u16 12 (f) ++ rowL .u16 12 (g)), .a (rowL .u16 12 (f') ++ rowL .u16 12 (g'))] H fun v H' => v = .t [.a (rowL .u16 12 (if (okC f g && okC f' g') = true then joinF f (lessF f' g) else fun _ => 0) ++ rowL .u16 12 (if (okC f g && okC f' g') = true then joinF g g' else fun _ => 0)), .v (.int .i64 (if (okC f g && okC f' g') = true then 0 else 1))] ∧ H' = H := by
  refine cal_fn 12 mixed Try.func50 Try.ntmps50 Try.results50 rfl rfl rfl fun hw cx hx hq => ?_
  simp only [go_sem, rowL_rep, cel0]
  refine call_ret (l05Cel (At.mk0 rfl)) (by simp only [go_sem]) ?_
  cases e1 : okC f g
  · simp only [go_sem, rowL_rep, cel0]
    refine ret_cut hq hw _ (.inl rfl) ?_
    simp [go_sem, e1]
  simp only [go_sem]
  refine call_ret (l05Cel (At.mk' 1 rfl rfl)) (by simp only [go_sem]) ?_
  cases e2 : okC f' g'
  · simp only [go_sem, rowL_rep, cel0]
    refine ret_cut hq hw _ (.inl rfl) ?_
    simp [go_sem, e1, e2]
  simp only [go_sem]
  refine call_ret (l05Over (At.mk0 rfl) (At.mk' 1 rfl rfl)) (by simp only [go_sem]) ?_
  simp only [go_sem]
  refine ret_cut hq hw _ (.inl rfl) ?_
  simp [go_sem, e1, e2]
theorem implLayOver {H : List Blk} {f g f' g' : Nat → Int} : Cal Try.prog 49 [.a (rowL .u16 12 (f) ++ rowL .u16 12 (g)), .a (rowL .u16 12 (f') ++ rowL .u16 12 (g'))] H fun v H' => v = .t [.a (rowL .u16 12 (if (okC f g && okC f' g') = true then joinF f (lessF f' g) else fun _ => 0) ++ rowL .u16 12 (if (okC f g && okC f' g') = true then joinF g g' else fun _ => 0)), .v (.int .i64 (if (okC f g && okC f' g') = true then 0 else 1))] ∧ H' = H := by
  refine cal_fn 16 mixed Try.func49 Try.ntmps49 Try.results49 rfl rfl rfl fun hw cx hx hq => ?_
  simp only [go_sem, rowL_rep, cel0]
  repeat (refine And.intro (by omega) ?_)
  refine call_ret implValidCel (by simp only [go_sem]) ?_
  cases e1 : okC f g
  · simp only [go_sem, rowL_rep, cel0]
    refine ret_cut hq hw _ (.inl rfl) ?_
    simp [go_sem, e1]
  simp only [go_sem]
  repeat (refine And.intro (by omega) ?_)
  refine call_ret implValidCel (by simp only [go_sem]) ?_
  cases e2 : okC f' g'
  · simp only [go_sem, rowL_rep, cel0]
    refine ret_cut hq hw _ (.inl rfl) ?_
    simp [go_sem, e1, e2]
  simp only [go_sem]
  repeat (refine And.intro (by omega) ?_)
  refine call_ret over (by simp only [go_sem]) ?_
  simp only [go_sem]
  refine ret_cut hq hw _ (.inl rfl) ?_
  simp [go_sem, e1, e2]
end Go.Proofs.Ytheeehjgmifclaa

