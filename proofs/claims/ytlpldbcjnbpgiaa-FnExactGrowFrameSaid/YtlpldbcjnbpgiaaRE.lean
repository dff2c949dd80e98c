/- Contracts of functions of the translated program, by the walk. -/
import Derived.Test.YtlpldbcjnbpgiaaRD
set_option linter.unusedVariables false
set_option linter.unusedSimpArgs false
namespace Go.Proofs.Ytlpldbcjnbpgiaa
open Go Go.Sx
theorem allEq_self (n : Nat) (f : Nat → Int) : allEq n f f = true := allEq_iff.2 fun _ _ => rfl
theorem most_eq (f g e : Nat → Int) : joinF (joinF (meetF f g) (meetF f e)) (meetF g e) = mostF f g e := rfl
theorem specMajorityOf {H : List Blk} {f g e : Nat → Int} : Cal Try.prog 13 [.a (rowL .u16 12 (f)), .a (rowL .u16 12 (g)), .a (rowL .u16 12 (e))] H fun v H' => v = .t [.a (rowL .u16 12 (if (okF f && (okF g && okF e)) = true then mostF f g e else fun _ => 0)), .v (.int .i64 (if (okF f && (okF g && okF e)) = true then 0 else 1))] ∧ H' = H := by
  refine cal_fn 17 mixed Try.func13 Try.ntmps13 Try.results13 rfl rfl rfl fun hw x hx hq => ?_
  simp only [go_sem, rowL_rep]
  refine call_ret (l01Ok (At.mk0 rfl)) (by simp only [go_sem]) ?_
  cases e1 : okF f
  · simp only [go_sem, rowL_rep]
    refine ret_cut hq hw _ (.inl rfl) ?_
    simp [go_sem, e1]
  simp only [go_sem]
  refine call_ret (l01Ok (At.mk' 1 rfl rfl)) (by simp only [go_sem]) ?_
  cases e2 : okF g
  · simp only [go_sem, rowL_rep]
    refine ret_cut hq hw _ (.inl rfl) ?_
    simp [go_sem, e1, e2]
  simp only [go_sem]
  refine call_ret (l01Ok (At.mk' 2 rfl rfl)) (by simp only [go_sem]) ?_
  cases e3 : okF e
  · simp only [go_sem, rowL_rep]
    refine ret_cut hq hw _ (.inl rfl) ?_
    simp [go_sem, e1, e2, e3]
  simp only [go_sem]
  refine call_ret (l04Most (At.mk0 rfl) (At.mk' 1 rfl rfl) (At.mk' 2 rfl rfl)) (by simp only [go_sem]) ?_
  simp only [go_sem]
  refine ret_cut hq hw _ (.inl rfl) ?_
  simp [go_sem, e1, e2, e3]
theorem majority {H : List Blk} {f g e : Nat → Int} : Cal Try.prog 33 [.a (rowL .u16 12 (f)), .a (rowL .u16 12 (g)), .a (rowL .u16 12 (e))] H fun v H' => v = .a (rowL .u16 12 (mostF f g e)) ∧ H' = H := by
  refine cal_fn 15 mixed Try.func33 Try.ntmps33 Try.results33 rfl rfl rfl fun hw x hx hq => ?_
  simp only [go_sem, rowL_rep]
  refine DK_all _ _ _ [[],[],[0,1],[],[],[0,1,2,3,4],[0,1,2,3,4,5],[],[],[0,1,2,3,4,5,6,7,8],[0,1,2,3,4,5,6,7,8,9],[0,1,2,3,4,5,6,7,8,9,10]] (by kernel_rfl) ?_
  simp only [go_sem]
  repeat (refine And.intro (by omega) ?_)
  refine mcall_ret meet (by simp only [go_sem]) (by simp only [go_sem]) ?_
  simp only [go_sem]
  repeat (refine And.intro (by omega) ?_)
  refine mcall_ret meet (by simp only [go_sem]) (by simp only [go_sem]) ?_
  simp only [go_sem]
  refine mcall_ret join (by simp only [go_sem]) (by simp only [go_sem]) ?_
  simp only [go_sem]
  repeat (refine And.intro (by omega) ?_)
  refine mcall_ret meet (by simp only [go_sem]) (by simp only [go_sem]) ?_
  simp only [go_sem]
  refine mcall_ret join (by simp only [go_sem]) (by simp only [go_sem]) ?_
  simp only [go_sem, most_eq]
  repeat (refine And.intro (by omega) ?_)
  refine ret_cut hq hw _ (.inl rfl) ?_
  simp only [go_sem]
theorem implMajorityOf {H : List Blk} {f g e : Nat → Int} : Cal Try.prog 15 [.a (rowL .u16 12 (f)), .a (rowL .u16 12 (g)), .a (rowL .u16 12 (e))] H fun v H' => v = .t [.a (rowL .u16 12 (if (okF f && (okF g && okF e)) = true then mostF f g e else fun _ => 0)), .v (.int .i64 (if (okF f && (okF g && okF e)) = true then 0 else 1))] ∧ H' = H := by
  refine cal_fn 16 mixed Try.func15 Try.ntmps15 Try.results15 rfl rfl rfl fun hw x hx hq => ?_
  simp only [go_sem, rowL_rep]
  repeat (refine And.intro (by omega) ?_)
  refine call_ret (areFrames3 (At.mk' 4 rfl rfl)) (by simp only [go_sem]) ?_
  cases e1 : (okF f && (okF g && okF e))
  · simp only [go_sem, rowL_rep]
    refine ret_cut hq hw _ (.inl rfl) ?_
    simp [go_sem, e1]
  simp only [go_sem]
  repeat (refine And.intro (by omega) ?_)
  refine call_ret majority (by simp only [go_sem]) ?_
  simp only [go_sem]
  repeat (refine And.intro (by omega) ?_)
  refine ret_cut hq hw _ (.inl rfl) ?_
  simp [go_sem, e1]
theorem lawMajorityOf {H : List Blk} {f g e : Nat → Int} : Cal Try.prog 4 [.a (rowL .u16 12 (f)), .a (rowL .u16 12 (g)), .a (rowL .u16 12 (e))] H fun v H' => v = .v (.bool true) ∧ H' = H := by
  refine cal_fn 37 mixed Try.func4 Try.ntmps4 Try.results4 rfl rfl rfl fun hw x hx hq => ?_
  simp only [go_sem]
  refine DK_all _ _ _ [[],[0],[],[0,1,2],[],[0,1,2,3,4],[0,1,2,3,4,5],[0,1,2,3,4,5,6],[0,1,2,3,4,5,6,7],[0,1,2,3,4,5,6,7],[],[0,1,2,3,4,5,6,7,8,10],[0,1,2,3,4,5,6,7,8,9,10,11]] (by kernel_rfl) ?_
  try simp only [go_sem]
  repeat (refine And.intro (by omega) ?_)
  refine mcall_ret (toFrame) (by simp only [go_sem]) (by simp only [go_sem]) ?_
  simp only [go_sem]
  repeat (refine And.intro (by omega) ?_)
  refine mcall_ret (toFrame) (by simp only [go_sem]) (by simp only [go_sem]) ?_
  simp only [go_sem]
  repeat (refine And.intro (by omega) ?_)
  refine mcall_ret (toFrame) (by simp only [go_sem]) (by simp only [go_sem]) ?_
  simp only [go_sem]
  repeat (refine And.intro (by omega) ?_)
  refine mcall_ret (specMajorityOf) (by simp only [go_sem]) (by simp only [go_sem]) ?_
  simp only [go_sem, rowL_rep, cel0]
  repeat (refine And.intro (by omega) ?_)
  refine DK_all _ _ _ [[],[0],[],[0,1,2],[],[0,1,2,3,4],[0,1,2,3,4,5],[0,1,2,3,4,5,6],[0,1,2,3,4,5,6,7],[0,1,2,3,4,5,6,7],[],[0,1,2,3,4,5,6,7,8,10],[0,1,2,3,4,5,6,7,8,9,10,11]] (by kernel_rfl) ?_
  try simp only [go_sem]
  repeat (refine And.intro (by omega) ?_)
  refine mcall_ret (toFrame) (by simp only [go_sem]) (by simp only [go_sem]) ?_
  simp only [go_sem]
  repeat (refine And.intro (by omega) ?_)
  refine mcall_ret (toFrame) (by simp only [go_sem]) (by simp only [go_sem]) ?_
  simp only [go_sem]
  repeat (refine And.intro (by omega) ?_)
  refine mcall_ret (toFrame) (by simp only [go_sem]) (by simp only [go_sem]) ?_
  simp only [go_sem]
  repeat (refine And.intro (by omega) ?_)
  refine mcall_ret (implMajorityOf) (by simp only [go_sem]) (by simp only [go_sem]) ?_
  simp only [go_sem, rowL_rep, cel0]
  repeat (refine And.intro (by omega) ?_)
  refine call_ret eqFrame (by simp only [go_sem]) ?_
  simp only [go_sem, allEq_self]
  refine ret_cut hq hw _ (.inl rfl) ?_
  simp only [go_sem]

theorem specShownBy {H : List Blk} {f g : Nat → Int} : Cal Try.prog 17 [.a (rowL .u16 12 (f) ++ rowL .u16 12 (g))] H fun v H' => v = .t [.a (rowL .u16 12 (if okC f g = true then f else fun _ => 0)), .v (.int .i64 (if okC f g = true then 0 else 1))] ∧ H' = H := by
  refine cal_fn 8 mixed Try.func17 Try.ntmps17 Try.results17 rfl rfl rfl fun hw x hx hq => ?_
  simp only [go_sem, rowL_rep]
  refine call_ret (l05Cel (At.mk0 rfl)) (by simp only [go_sem]) ?_
  cases e1 : okC f g
  · simp only [go_sem, rowL_rep]
    repeat (refine And.intro (by omega) ?_)
    refine ret_cut hq hw _ (.inl rfl) ?_
    simp [go_sem, e1]
  · simp only [go_sem, rowL_rep]
    repeat (refine And.intro (by omega) ?_)
    refine ret_cut hq hw _ (.inl rfl) ?_
    simp [go_sem, e1]
theorem implShownBy {H : List Blk} {f g : Nat → Int} : Cal Try.prog 18 [.a (rowL .u16 12 (f) ++ rowL .u16 12 (g))] H fun v H' => v = .t [.a (rowL .u16 12 (if okC f g = true then f else fun _ => 0)), .v (.int .i64 (if okC f g = true then 0 else 1))] ∧ H' = H := by
  refine cal_fn 9 mixed Try.func18 Try.ntmps18 Try.results18 rfl rfl rfl fun hw x hx hq => ?_
  simp only [go_sem, rowL_rep]
  repeat (refine And.intro (by omega) ?_)
  refine call_ret implValidCel (by simp only [go_sem]) ?_
  cases e1 : okC f g
  · simp only [go_sem, rowL_rep]
    repeat (refine And.intro (by omega) ?_)
    refine ret_cut hq hw _ (.inl rfl) ?_
    simp [go_sem, e1]
  · simp only [go_sem, rowL_rep]
    repeat (refine And.intro (by omega) ?_)
    refine ret_cut hq hw _ (.inl rfl) ?_
    simp [go_sem, e1]
theorem lawShownBy {H : List Blk} {f g : Nat → Int} : Cal Try.prog 5 [.a (rowL .u16 12 (f) ++ rowL .u16 12 (g))] H fun v H' => v = .v (.bool true) ∧ H' = H := by
  refine cal_fn 27 mixed Try.func5 Try.ntmps5 Try.results5 rfl rfl rfl fun hw x hx hq => ?_
  simp only [go_sem]
  skip
  try simp only [go_sem]
  repeat (refine And.intro (by omega) ?_)
  refine call_ret (toCel) (by simp only [go_sem]) ?_
  simp only [go_sem]
  repeat (refine And.intro (by omega) ?_)
  refine call_ret (specShownBy) (by simp only [go_sem]) ?_
  simp only [go_sem, rowL_rep, cel0]
  repeat (refine And.intro (by omega) ?_)
  skip
  try simp only [go_sem]
  repeat (refine And.intro (by omega) ?_)
  refine call_ret (toCel) (by simp only [go_sem]) ?_
  simp only [go_sem]
  repeat (refine And.intro (by omega) ?_)
  refine call_ret (implShownBy) (by simp only [go_sem]) ?_
  simp only [go_sem, rowL_rep, cel0]
  repeat (refine And.intro (by omega) ?_)
  refine call_ret eqFrame (by simp only [go_sem]) ?_
  simp only [go_sem, allEq_self]
  refine ret_cut hq hw _ (.inl rfl) ?_
  simp only [go_sem]

theorem eqCel {H : List Blk} {f g f' g' : Nat → Int} : Cal Try.prog 21 [.a (rowL .u16 12 (f) ++ rowL .u16 12 (g)), .a (rowL .u16 12 (f') ++ rowL .u16 12 (g'))] H fun v H' => v = .v (.bool (allEq 12 f f' && allEq 12 g g')) ∧ H' = H := by
  refine cal_fn 15 mixed Try.func21 Try.ntmps21 Try.results21 rfl rfl rfl fun hw x hx hq => ?_
  simp only [go_sem]
  repeat (refine And.intro (by omega) ?_)
  refine call_ret eqFrame (by simp only [go_sem]) ?_
  cases e1 : allEq 12 f f'
  · simp only [go_sem]
    refine ret_cut hq hw _ (.inl rfl) ?_
    simp [go_sem, e1]
  simp only [go_sem]
  repeat (refine And.intro (by omega) ?_)
  refine call_ret eqFrame (by simp only [go_sem]) ?_
  cases e2 : allEq 12 g g' <;> simp only [go_sem] <;> refine ret_cut hq hw _ (.inl rfl) ?_ <;> simp [go_sem, e1, e2]
theorem specCelFrom {H : List Blk} {f g : Nat → Int} : Cal Try.prog 19 [.a (rowL .u16 12 (f)), .a (rowL .u16 12 (g))] H fun v H' => v = .t [.a (rowL .u16 12 (if (okF f && okF g) = true then f else fun _ => 0) ++ rowL .u16 12 (if (okF f && okF g) = true then joinF f g else fun _ => 0)), .v (.int .i64 (if (okF f && okF g) = true then 0 else 1))] ∧ H' = H := by
  refine cal_fn 13 mixed Try.func19 Try.ntmps19 Try.results19 rfl rfl rfl fun hw x hx hq => ?_
  simp only [go_sem, rowL_rep, cel0]
  refine call_ret (l01Both (At.mk0 rfl) (At.mk' 1 rfl rfl)) (by simp only [go_sem]) ?_
  cases e1 : (okF f && okF g)
  · simp [go_sem, rowL_rep, cel0]
    refine ret_cut hq hw _ (.inl rfl) ?_
    simp [go_sem, e1]
  simp [go_sem]
  refine DK_all _ _ _ [[],[],[0,1],[0,1,2],[0,1,2,3]] (by kernel_rfl) ?_
  simp only [go_sem]
  repeat (refine And.intro (by omega) ?_)
  refine mcall_ret (l01Join (At.mk0 rfl) (At.mk' 1 rfl rfl)) (by simp only [go_sem]) (by simp only [go_sem]) ?_
  simp only [go_sem, rowL_rep, cel0]
  repeat (refine And.intro (by omega) ?_)
  refine ret_cut hq hw _ (.inl rfl) ?_
  simp [go_sem, e1]
theorem implCelFrom {H : List Blk} {f g : Nat → Int} : Cal Try.prog 20 [.a (rowL .u16 12 (f)), .a (rowL .u16 12 (g))] H fun v H' => v = .t [.a (rowL .u16 12 (if (okF f && okF g) = true then f else fun _ => 0) ++ rowL .u16 12 (if (okF f && okF g) = true then joinF f g else fun _ => 0)), .v (.int .i64 (if (okF f && okF g) = true then 0 else 1))] ∧ H' = H := by
  refine cal_fn 15 mixed Try.func20 Try.ntmps20 Try.results20 rfl rfl rfl fun hw x hx hq => ?_
  simp only [go_sem, rowL_rep, cel0]
  repeat (refine And.intro (by omega) ?_)
  refine call_ret (areFrames2 (At.mk' 3 rfl rfl)) (by simp only [go_sem]) ?_
  cases e1 : (okF f && okF g)
  · simp only [go_sem, rowL_rep, cel0]
    refine ret_cut hq hw _ (.inl rfl) ?_
    simp [go_sem, e1]
  simp only [go_sem]
  refine DK_all _ _ _ [[],[],[],[1,2],[0,1,2,3],[0,1,2,3,4],[0,1,2,3,4,5]] (by kernel_rfl) ?_
  simp only [go_sem]
  repeat (refine And.intro (by omega) ?_)
  refine mcall_ret join (by simp only [go_sem]) (by simp only [go_sem]) ?_
  simp only [go_sem, rowL_rep, cel0]
  repeat (refine And.intro (by omega) ?_)
  refine ret_cut hq hw _ (.inl rfl) ?_
  simp [go_sem, e1]
theorem lawCelFrom {H : List Blk} {f g : Nat → Int} : Cal Try.prog 6 [.a (rowL .u16 12 (f)), .a (rowL .u16 12 (g))] H fun v H' => v = .v (.bool true) ∧ H' = H := by
  refine cal_fn 32 mixed Try.func6 Try.ntmps6 Try.results6 rfl rfl rfl fun hw x hx hq => ?_
  simp only [go_sem]
  refine DK_all _ _ _ [[],[0],[],[0,1,2],[0,1,2,3],[0,1,2,3,4],[0,1,2,3,4,5],[0,1,2,3,4,5],[],[0,1,2,3,4,5,6,8],[0,1,2,3,4,5,6,7,8,9]] (by kernel_rfl) ?_
  try simp only [go_sem]
  repeat (refine And.intro (by omega) ?_)
  refine mcall_ret (toFrame) (by simp only [go_sem]) (by simp only [go_sem]) ?_
  simp only [go_sem]
  repeat (refine And.intro (by omega) ?_)
  refine mcall_ret (toFrame) (by simp only [go_sem]) (by simp only [go_sem]) ?_
  simp only [go_sem]
  repeat (refine And.intro (by omega) ?_)
  refine mcall_ret (specCelFrom) (by simp only [go_sem]) (by simp only [go_sem]) ?_
  simp only [go_sem, rowL_rep, cel0]
  repeat (refine And.intro (by omega) ?_)
  refine DK_all _ _ _ [[],[0],[],[0,1,2],[0,1,2,3],[0,1,2,3,4],[0,1,2,3,4,5],[0,1,2,3,4,5],[],[0,1,2,3,4,5,6,8],[0,1,2,3,4,5,6,7,8,9]] (by kernel_rfl) ?_
  try simp only [go_sem]
  repeat (refine And.intro (by omega) ?_)
  refine mcall_ret (toFrame) (by simp only [go_sem]) (by simp only [go_sem]) ?_
  simp only [go_sem]
  repeat (refine And.intro (by omega) ?_)
  refine mcall_ret (toFrame) (by simp only [go_sem]) (by simp only [go_sem]) ?_
  simp only [go_sem]
  repeat (refine And.intro (by omega) ?_)
  refine mcall_ret (implCelFrom) (by simp only [go_sem]) (by simp only [go_sem]) ?_
  simp only [go_sem, rowL_rep, cel0]
  repeat (refine And.intro (by omega) ?_)
  refine call_ret eqCel (by simp only [go_sem]) ?_
  simp only [go_sem, allEq_self]
  refine ret_cut hq hw _ (.inl rfl) ?_
  simp only [go_sem]

theorem l05Over {H : List Blk} {i off j o2 : Nat} {f g f' g' : Nat → Int} {b b2 : Blk} (h : At H i off (rowL .u16 12 (f) ++ rowL .u16 12 (g)) b) (h2 : At H j o2 (rowL .u16 12 (f') ++ rowL .u16 12 (g')) b2) : Cal Try.prog 37 [.p i off, .p j o2] H fun v H' => v = .a (rowL .u16 12 (joinF f (lessF f' g)) ++ rowL .u16 12 (joinF g g')) ∧ H' = H := by
  refine cal_fn 23 mixed Try.func37 Try.ntmps37 Try.results37 rfl rfl rfl fun hw x hx hq => ?_
  have hl := h.left
  have hr := h.right
  have hl2 := h2.left
  have hr2 := h2.right
  rw [rowL_length] at hr hr2
  simp only [go_sem, rowL_rep, cel0]
  refine DK_all _ _ _ [[],[0],[0,1],[],[3],[3,4],[0,1,2,3,4,5],[],[0,1,2,3,4,5,6,7]] (by kernel_rfl) ?_
  simp only [go_sem]
  refine mcall_ret (l01Less hl2.app hr.app) (by simp only [go_sem]) (by simp only [go_sem]) ?_
  simp only [go_sem, rowL_rep]
  repeat (refine And.intro (by omega) ?_)
  refine DK_all _ _ _ [[],[0],[0,1],[0,1,2],[],[4],[4,5],[],[7],[7,8],[0,1,2,3,4,5,6,7,8,9],[0,1,2,3,4,5,6,7,8,9,10],[0,1,2,3,4,5,6,7,8,9,10,11]] (by kernel_rfl) ?_
  simp only [go_sem]
  refine mcall_ret (l01Join hl.app (At.mk' 1 rfl rfl)) (by simp only [go_sem]) (by simp only [go_sem]) ?_
  simp only [go_sem]
  refine mcall_ret (l01Join hr.app hr2.app) (by simp only [go_sem]) (by simp only [go_sem]) ?_
  simp only [go_sem, rowL_rep, cel0]
  repeat (refine And.intro (by omega) ?_)
  refine ret_cut hq hw _ (.inl rfl) ?_
  simp only [go_sem]
theorem over {H : List Blk} {f g f' g' : Nat → Int} : Cal Try.prog 38 [.a (rowL .u16 12 (f) ++ rowL .u16 12 (g)), .a (rowL .u16 12 (f') ++ rowL .u16 12 (g'))] H fun v H' => v = .a (rowL .u16 12 (joinF f (lessF f' g)) ++ rowL .u16 12 (joinF g g')) ∧ H' = H := by
  refine cal_fn 17 mixed Try.func38 Try.ntmps38 Try.results38 rfl rfl rfl fun hw x hx hq => ?_
  simp only [go_sem, rowL_rep, cel0]
  refine DK_all _ _ _ [[],[0],[],[2],[],[4],[2,3,4,5],[0,1,2,3,4,5,6],[],[8],[],[10],[0,1,2,3,4,5,6,7,8,9,10,11],[0,1,2,3,4,5,6,7,8,9,10,11,12],[0,1,2,3,4,5,6,7,8,9,10,11,12,13]] (by kernel_rfl) ?_
  simp only [go_sem]
  repeat (refine And.intro (by omega) ?_)
  refine mcall_ret less (by simp only [go_sem]) (by simp only [go_sem]) ?_
  simp only [go_sem]
  refine mcall_ret join (by simp only [go_sem]) (by simp only [go_sem]) ?_
  simp only [go_sem]
  repeat (refine And.intro (by omega) ?_)
  refine mcall_ret join (by simp only [go_sem]) (by simp only [go_sem]) ?_
  simp only [go_sem, rowL_rep, cel0]
  repeat (refine And.intro (by omega) ?_)
  refine ret_cut hq hw _ (.inl rfl) ?_
  simp only [go_sem]

theorem specLayOver {H : List Blk} {f g f' g' : Nat → Int} : Cal Try.prog 22 [.a (rowL .u16 12 (f) ++ rowL .u16 12 (g)), .a (rowL .u16 12 (f') ++ rowL .u16 12 (g'))] H fun v H' => v = .t [.a (rowL .u16 12 (if (okC f g && okC f' g') = true then joinF f (lessF f' g) else fun _ => 0) ++ rowL .u16 12 (if (okC f g && okC f' g') = true then joinF g g' else fun _ => 0)), .v (.int .i64 (if (okC f g && okC f' g') = true then 0 else 1))] ∧ H' = H := by
  refine cal_fn 12 mixed Try.func22 Try.ntmps22 Try.results22 rfl rfl rfl fun hw x hx hq => ?_
  simp only [go_sem, rowL_rep, cel0]
  refine call_ret (l05Cel (At.mk0 rfl)) (by simp only [go_sem]) ?_
  cases e1 : okC f g
  · simp only [go_sem, rowL_rep, cel0]
    refine ret_cut hq hw _ (.inl rfl) ?_
    simp [go_sem, e1]
  simp only [go_sem]
  refine call_ret (l05Cel (At.mk' 1 rfl rfl)) (by simp only [go_sem]) ?_
  cases e2 : okC f' g'
  · simp only [go_sem, rowL_rep, cel0]
    refine ret_cut hq hw _ (.inl rfl) ?_
    simp [go_sem, e1, e2]
  simp only [go_sem]
  refine call_ret (l05Over (At.mk0 rfl) (At.mk' 1 rfl rfl)) (by simp only [go_sem]) ?_
  simp only [go_sem]
  refine ret_cut hq hw _ (.inl rfl) ?_
  simp [go_sem, e1, e2]
theorem implLayOver {H : List Blk} {f g f' g' : Nat → Int} : Cal Try.prog 23 [.a (rowL .u16 12 (f) ++ rowL .u16 12 (g)), .a (rowL .u16 12 (f') ++ rowL .u16 12 (g'))] H fun v H' => v = .t [.a (rowL .u16 12 (if (okC f g && okC f' g') = true then joinF f (lessF f' g) else fun _ => 0) ++ rowL .u16 12 (if (okC f g && okC f' g') = true then joinF g g' else fun _ => 0)), .v (.int .i64 (if (okC f g && okC f' g') = true then 0 else 1))] ∧ H' = H := by
  refine cal_fn 16 mixed Try.func23 Try.ntmps23 Try.results23 rfl rfl rfl fun hw x hx hq => ?_
  simp only [go_sem, rowL_rep, cel0]
  repeat (refine And.intro (by omega) ?_)
  refine call_ret implValidCel (by simp only [go_sem]) ?_
  cases e1 : okC f g
  · simp only [go_sem, rowL_rep, cel0]
    refine ret_cut hq hw _ (.inl rfl) ?_
    simp [go_sem, e1]
  simp only [go_sem]
  repeat (refine And.intro (by omega) ?_)
  refine call_ret implValidCel (by simp only [go_sem]) ?_
  cases e2 : okC f' g'
  · simp only [go_sem, rowL_rep, cel0]
    refine ret_cut hq hw _ (.inl rfl) ?_
    simp [go_sem, e1, e2]
  simp only [go_sem]
  repeat (refine And.intro (by omega) ?_)
  refine call_ret over (by simp only [go_sem]) ?_
  simp only [go_sem]
  refine ret_cut hq hw _ (.inl rfl) ?_
  simp [go_sem, e1, e2]
theorem lawLayOver {H : List Blk} {f g f' g' : Nat → Int} : Cal Try.prog 7 [.a (rowL .u16 12 (f) ++ rowL .u16 12 (g)), .a (rowL .u16 12 (f') ++ rowL .u16 12 (g'))] H fun v H' => v = .v (.bool true) ∧ H' = H := by
  refine cal_fn 32 mixed Try.func7 Try.ntmps7 Try.results7 rfl rfl rfl fun hw x hx hq => ?_
  simp only [go_sem]
  refine DK_all _ _ _ [[],[0],[],[0,1,2],[0,1,2,3],[0,1,2,3,4],[0,1,2,3,4,5],[0,1,2,3,4,5],[],[0,1,2,3,4,5,6,8],[0,1,2,3,4,5,6,7,8,9]] (by kernel_rfl) ?_
  try simp only [go_sem]
  repeat (refine And.intro (by omega) ?_)
  refine mcall_ret (toCel) (by simp only [go_sem]) (by simp only [go_sem]) ?_
  simp only [go_sem]
  repeat (refine And.intro (by omega) ?_)
  refine mcall_ret (toCel) (by simp only [go_sem]) (by simp only [go_sem]) ?_
  simp only [go_sem]
  repeat (refine And.intro (by omega) ?_)
  refine mcall_ret (specLayOver) (by simp only [go_sem]) (by simp only [go_sem]) ?_
  simp only [go_sem, rowL_rep, cel0]
  repeat (refine And.intro (by omega) ?_)
  refine DK_all _ _ _ [[],[0],[],[0,1,2],[0,1,2,3],[0,1,2,3,4],[0,1,2,3,4,5],[0,1,2,3,4,5],[],[0,1,2,3,4,5,6,8],[0,1,2,3,4,5,6,7,8,9]] (by kernel_rfl) ?_
  try simp only [go_sem]
  repeat (refine And.intro (by omega) ?_)
  refine mcall_ret (toCel) (by simp only [go_sem]) (by simp only [go_sem]) ?_
  simp only [go_sem]
  repeat (refine And.intro (by omega) ?_)
  refine mcall_ret (toCel) (by simp only [go_sem]) (by simp only [go_sem]) ?_
  simp only [go_sem]
  repeat (refine And.intro (by omega) ?_)
  refine mcall_ret (implLayOver) (by simp only [go_sem]) (by simp only [go_sem]) ?_
  simp only [go_sem, rowL_rep, cel0]
  repeat (refine And.intro (by omega) ?_)
  refine call_ret eqCel (by simp only [go_sem]) ?_
  simp only [go_sem, allEq_self]
  refine ret_cut hq hw _ (.inl rfl) ?_
  simp only [go_sem]
end Go.Proofs.Ytlpldbcjnbpgiaa
