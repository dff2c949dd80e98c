/- Contracts of functions of the translated program, by the walk. -/
import Derived.Test.YtpginknbmmdmoaaR1f
import Derived.Test.YtpginknbmmdmoaaLD
set_option linter.unusedVariables false
set_option linter.unusedSimpArgs false
set_option maxRecDepth 8000
set_option maxHeartbeats 4000000
namespace Go.Proofs.Ytpginknbmmdmoaa
open Go Go.Sx
theorem okC_iff {f g : Nat → Int} (h : okC f g = true) : okF f = true ∧ okF g = true := by
  unfold okC at h
  simp only [Bool.and_eq_true] at h
  exact h.1
theorem celMoved {H : List Blk} {f g : Nat → Int} {e s : Int} (hf : R16 f) (hg : R16 g) (he : -12 ≤ e ∧ e ≤ 12) (hs : -1000 ≤ s ∧ s ≤ 1000) :
    Cal Try.prog 82 [.a (rowL .u16 12 (f) ++ rowL .u16 12 (g)), .v (.int .i64 e), .v (.int .i64 s)] H fun v H' => v = .a (rowL .u16 12 (movI f e s) ++ rowL .u16 12 (movI g e s)) ∧ H' = H := by
  refine cal_fn 15 mixed Try.func82 Try.ntmps82 Try.results82 rfl rfl rfl fun hw x hx hq => ?_
  repeat (first | (simp only [go_sem, Int.reduceLT, Int.reduceLE, Int.reduceEq, rowL_rep, cel0]) | (refine And.intro (by omega) ?_) | (refine call_ret (moved hf he hs) (by simp only [go_sem, Int.reduceLT, Int.reduceLE, Int.reduceEq, rowL_rep, cel0]) ?_) | (refine call_ret (moved hg he hs) (by simp only [go_sem, Int.reduceLT, Int.reduceLE, Int.reduceEq, rowL_rep, cel0]) ?_) | (refine mcall_ret (moved hf he hs) (by simp only [go_sem, Int.reduceLT, Int.reduceLE, Int.reduceEq, rowL_rep, cel0]) (by simp only [go_sem, Int.reduceLT, Int.reduceLE, Int.reduceEq, rowL_rep, cel0]) ?_) | (refine mcall_ret (moved hg he hs) (by simp only [go_sem, Int.reduceLT, Int.reduceLE, Int.reduceEq, rowL_rep, cel0]) (by simp only [go_sem, Int.reduceLT, Int.reduceLE, Int.reduceEq, rowL_rep, cel0]) ?_) | (refine WK_drawAt 1 [[],[0],[],[],[0,1,2,3],[],[5],[],[],[0,1,2,3,4,5,6,7,8],[0,1,2,3,4,5,6,7,8,9],[0,1,2,3,4,5,6,7,8,9,10]] (by kernel_rfl) ?_) | (with_reducible refine And.intro (by first | with_reducible rfl | assumption | (simp only [go_sem]; done)) ?_))
  refine ret_cut hq hw _ (.inl rfl) ?_
  simp [go_sem]
theorem l05Moved {H : List Blk} {i off : Nat} {f g : Nat → Int} {b : Blk} {e s : Int} (h : At H i off (rowL .u16 12 (f) ++ rowL .u16 12 (g)) b) (hf : F12 f) (hg : F12 g) (he : -1000 ≤ e ∧ e ≤ 1000) (hs : -1000 ≤ s ∧ s ≤ 1000) :
    Cal Try.prog 79 [.p i off, .v (.int .i64 e), .v (.int .i64 s)] H fun v H' => v = .a (rowL .u16 12 (movI f e s) ++ rowL .u16 12 (movI g e s)) ∧ H' = H := by
  have hl := h.left
  have hr := h.right
  rw [rowL_length] at hr
  have e1 := moved_eq hf e s .u16
  have e2 := moved_eq hg e s .u16
  refine cal_fn 17 mixed Try.func79 Try.ntmps79 Try.results79 rfl rfl rfl fun hw x hx hq => ?_
  repeat (first | (simp only [go_sem, Int.reduceLT, Int.reduceLE, Int.reduceEq, rowL_rep, cel0, e1, e2]) | (refine And.intro (by omega) ?_) | (refine call_ret (l01Moved hl.app hf.r16 he hs) (by simp only [go_sem, Int.reduceLT, Int.reduceLE, Int.reduceEq, rowL_rep, cel0, e1, e2]) ?_) | (refine call_ret (l01Moved hr.app hg.r16 he hs) (by simp only [go_sem, Int.reduceLT, Int.reduceLE, Int.reduceEq, rowL_rep, cel0, e1, e2]) ?_) | (refine mcall_ret (l01Moved hl.app hf.r16 he hs) (by simp only [go_sem, Int.reduceLT, Int.reduceLE, Int.reduceEq, rowL_rep, cel0, e1, e2]) (by simp only [go_sem, Int.reduceLT, Int.reduceLE, Int.reduceEq, rowL_rep, cel0, e1, e2]) ?_) | (refine mcall_ret (l01Moved hr.app hg.r16 he hs) (by simp only [go_sem, Int.reduceLT, Int.reduceLE, Int.reduceEq, rowL_rep, cel0, e1, e2]) (by simp only [go_sem, Int.reduceLT, Int.reduceLE, Int.reduceEq, rowL_rep, cel0, e1, e2]) ?_) | (refine WK_drawAt 1 [[],[0],[0,1],[],[],[0,1,2,3,4],[],[6],[6,7],[],[],[0,1,2,3,4,5,6,7,8,9,10],[0,1,2,3,4,5,6,7,8,9,10,11],[0,1,2,3,4,5,6,7,8,9,10,11,12]] (by kernel_rfl) ?_) | (with_reducible refine And.intro (by first | with_reducible rfl | assumption | (simp only [go_sem]; done)) ?_))
  refine ret_cut hq hw _ (.inl rfl) ?_
  simp [go_sem]
def mvC (f g : Nat → Int) (e s : Int) : Int := if okC f g = true then wayC f e s else 1
theorem way_range {f : Nat → Int} {e s : Int} (h : wayC f e s = 0) : (-12 ≤ e ∧ e ≤ 12) ∧ (-12 ≤ s ∧ s ≤ 12) := by
  unfold wayC at h
  split at h
  · split at h
    · rename_i h2; simp at h2; exact h2
    · cases h
  · cases h
theorem specMoveCel {H : List Blk} {f g : Nat → Int} {e s : Int} (hf : R16 f) (hg : R16 g) : Cal Try.prog 24 [.a (rowL .u16 12 (f) ++ rowL .u16 12 (g)), .v (.int .i64 e), .v (.int .i64 s)] H fun v H' => v = .t [.a (rowL .u16 12 (if mvC f g e s = 0 then movI f e s else fun _ => 0) ++ rowL .u16 12 (if mvC f g e s = 0 then movI g e s else fun _ => 0)), .v (.int .i64 (mvC f g e s))] ∧ H' = H := by
  refine cal_fn 20 mixed Try.func24 Try.ntmps24 Try.results24 rfl rfl rfl fun hw x hx hq => ?_
  cases e1 : okC f g
  · have hc : mvC f g e s = 1 := by unfold mvC; rw [e1]; rfl
    repeat (first | (simp only [go_sem, Int.reduceLT, Int.reduceLE, Int.reduceEq, e1, rowL_rep, cel0]) | (refine And.intro (by omega) ?_) | (refine call_ret (l05Cel (At.mk0 rfl)) (by simp only [go_sem, Int.reduceLT, Int.reduceLE, Int.reduceEq, e1, rowL_rep, cel0]) ?_) | (refine mcall_ret (l05Cel (At.mk0 rfl)) (by simp only [go_sem, Int.reduceLT, Int.reduceLE, Int.reduceEq, e1, rowL_rep, cel0]) (by simp only [go_sem, Int.reduceLT, Int.reduceLE, Int.reduceEq, e1, rowL_rep, cel0]) ?_) | (with_reducible refine And.intro (by first | with_reducible rfl | assumption | (simp only [go_sem]; done)) ?_))
    refine ret_cut hq hw _ (.inl rfl) ?_
    simp [go_sem, hc]
  have hc : mvC f g e s = wayC f e s := by unfold mvC; rw [e1]; rfl
  have ho := okC_iff e1
  by_cases e2 : wayC f e s = 0
  · have hr := way_range e2
    repeat (first | (simp only [go_sem, Int.reduceLT, Int.reduceLE, Int.reduceEq, e1, e2, rowL_rep, cel0]) | (refine And.intro (by omega) ?_) | (refine call_ret (l05Cel (At.mk0 rfl)) (by simp only [go_sem, Int.reduceLT, Int.reduceLE, Int.reduceEq, e1, e2, rowL_rep, cel0]) ?_) | (refine call_ret (l01Way (At.mk0 (cs := rowL .u16 12 (f) ++ rowL .u16 12 (g)) rfl).left) (by simp only [go_sem, Int.reduceLT, Int.reduceLE, Int.reduceEq, e1, e2, rowL_rep, cel0]) ?_) | (refine call_ret (l05Moved (At.mk0 rfl) (okF_f12 ho.1 hf) (okF_f12 ho.2 hg) (by omega) (by omega)) (by simp only [go_sem, Int.reduceLT, Int.reduceLE, Int.reduceEq, e1, e2, rowL_rep, cel0]) ?_) | (refine mcall_ret (l05Cel (At.mk0 rfl)) (by simp only [go_sem, Int.reduceLT, Int.reduceLE, Int.reduceEq, e1, e2, rowL_rep, cel0]) (by simp only [go_sem, Int.reduceLT, Int.reduceLE, Int.reduceEq, e1, e2, rowL_rep, cel0]) ?_) | (refine mcall_ret (l01Way (At.mk0 (cs := rowL .u16 12 (f) ++ rowL .u16 12 (g)) rfl).left) (by simp only [go_sem, Int.reduceLT, Int.reduceLE, Int.reduceEq, e1, e2, rowL_rep, cel0]) (by simp only [go_sem, Int.reduceLT, Int.reduceLE, Int.reduceEq, e1, e2, rowL_rep, cel0]) ?_) | (refine mcall_ret (l05Moved (At.mk0 rfl) (okF_f12 ho.1 hf) (okF_f12 ho.2 hg) (by omega) (by omega)) (by simp only [go_sem, Int.reduceLT, Int.reduceLE, Int.reduceEq, e1, e2, rowL_rep, cel0]) (by simp only [go_sem, Int.reduceLT, Int.reduceLE, Int.reduceEq, e1, e2, rowL_rep, cel0]) ?_) | (with_reducible refine And.intro (by first | with_reducible rfl | assumption | (simp only [go_sem]; done)) ?_))
    refine ret_cut hq hw _ (.inl rfl) ?_
    simp [go_sem, hc, e2]
  · repeat (first | (simp only [go_sem, Int.reduceLT, Int.reduceLE, Int.reduceEq, e1, e2, rowL_rep, cel0]) | (refine And.intro (by omega) ?_) | (refine call_ret (l05Cel (At.mk0 rfl)) (by simp only [go_sem, Int.reduceLT, Int.reduceLE, Int.reduceEq, e1, e2, rowL_rep, cel0]) ?_) | (refine call_ret (l01Way (At.mk0 (cs := rowL .u16 12 (f) ++ rowL .u16 12 (g)) rfl).left) (by simp only [go_sem, Int.reduceLT, Int.reduceLE, Int.reduceEq, e1, e2, rowL_rep, cel0]) ?_) | (refine mcall_ret (l05Cel (At.mk0 rfl)) (by simp only [go_sem, Int.reduceLT, Int.reduceLE, Int.reduceEq, e1, e2, rowL_rep, cel0]) (by simp only [go_sem, Int.reduceLT, Int.reduceLE, Int.reduceEq, e1, e2, rowL_rep, cel0]) ?_) | (refine mcall_ret (l01Way (At.mk0 (cs := rowL .u16 12 (f) ++ rowL .u16 12 (g)) rfl).left) (by simp only [go_sem, Int.reduceLT, Int.reduceLE, Int.reduceEq, e1, e2, rowL_rep, cel0]) (by simp only [go_sem, Int.reduceLT, Int.reduceLE, Int.reduceEq, e1, e2, rowL_rep, cel0]) ?_) | (with_reducible refine And.intro (by first | with_reducible rfl | assumption | (simp only [go_sem]; done)) ?_))
    refine ret_cut hq hw _ (.inl rfl) ?_
    simp [go_sem, hc, e2]
theorem implMoveCel {H : List Blk} {f g : Nat → Int} {e s : Int} (hf : R16 f) (hg : R16 g) : Cal Try.prog 26 [.a (rowL .u16 12 (f) ++ rowL .u16 12 (g)), .v (.int .i64 e), .v (.int .i64 s)] H fun v H' => v = .t [.a (rowL .u16 12 (if mvC f g e s = 0 then movI f e s else fun _ => 0) ++ rowL .u16 12 (if mvC f g e s = 0 then movI g e s else fun _ => 0)), .v (.int .i64 (mvC f g e s))] ∧ H' = H := by
  refine cal_fn 24 mixed Try.func26 Try.ntmps26 Try.results26 rfl rfl rfl fun hw x hx hq => ?_
  cases e1 : okC f g
  · have hc : mvC f g e s = 1 := by unfold mvC; rw [e1]; rfl
    repeat (first | (simp only [go_sem, Int.reduceLT, Int.reduceLE, Int.reduceEq, e1, rowL_rep, cel0]) | (refine And.intro (by omega) ?_) | (refine call_ret (implValidCel) (by simp only [go_sem, Int.reduceLT, Int.reduceLE, Int.reduceEq, e1, rowL_rep, cel0]) ?_) | (refine mcall_ret (implValidCel) (by simp only [go_sem, Int.reduceLT, Int.reduceLE, Int.reduceEq, e1, rowL_rep, cel0]) (by simp only [go_sem, Int.reduceLT, Int.reduceLE, Int.reduceEq, e1, rowL_rep, cel0]) ?_) | (with_reducible refine And.intro (by first | with_reducible rfl | assumption | (simp only [go_sem]; done)) ?_))
    refine ret_cut hq hw _ (.inl rfl) ?_
    simp [go_sem, hc]
  have ho := okC_iff e1
  have hc : mvC f g e s = (if ((decide (-12 ≤ e) && decide (e ≤ 12)) && (decide (-12 ≤ s) && decide (s ≤ 12))) = true then 0 else 2) := by unfold mvC wayC; rw [e1, ho.1]; rfl
  cases e2 : (decide (-12 ≤ e) && decide (e ≤ 12))
  · repeat (first | (simp only [go_sem, Int.reduceLT, Int.reduceLE, Int.reduceEq, e1, e2, rowL_rep, cel0]) | (refine And.intro (by omega) ?_) | (refine call_ret (implValidCel) (by simp only [go_sem, Int.reduceLT, Int.reduceLE, Int.reduceEq, e1, e2, rowL_rep, cel0]) ?_) | (refine call_ret (inRange) (by simp only [go_sem, Int.reduceLT, Int.reduceLE, Int.reduceEq, e1, e2, rowL_rep, cel0]) ?_) | (refine mcall_ret (implValidCel) (by simp only [go_sem, Int.reduceLT, Int.reduceLE, Int.reduceEq, e1, e2, rowL_rep, cel0]) (by simp only [go_sem, Int.reduceLT, Int.reduceLE, Int.reduceEq, e1, e2, rowL_rep, cel0]) ?_) | (refine mcall_ret (inRange) (by simp only [go_sem, Int.reduceLT, Int.reduceLE, Int.reduceEq, e1, e2, rowL_rep, cel0]) (by simp only [go_sem, Int.reduceLT, Int.reduceLE, Int.reduceEq, e1, e2, rowL_rep, cel0]) ?_) | (with_reducible refine And.intro (by first | with_reducible rfl | assumption | (simp only [go_sem]; done)) ?_))
    refine ret_cut hq hw _ (.inl rfl) ?_
    simp [go_sem, hc, e2]
  cases e3 : (decide (-12 ≤ s) && decide (s ≤ 12))
  · repeat (first | (simp only [go_sem, Int.reduceLT, Int.reduceLE, Int.reduceEq, e1, e2, e3, rowL_rep, cel0]) | (refine And.intro (by omega) ?_) | (refine call_ret (implValidCel) (by simp only [go_sem, Int.reduceLT, Int.reduceLE, Int.reduceEq, e1, e2, e3, rowL_rep, cel0]) ?_) | (refine call_ret (inRange) (by simp only [go_sem, Int.reduceLT, Int.reduceLE, Int.reduceEq, e1, e2, e3, rowL_rep, cel0]) ?_) | (refine mcall_ret (implValidCel) (by simp only [go_sem, Int.reduceLT, Int.reduceLE, Int.reduceEq, e1, e2, e3, rowL_rep, cel0]) (by simp only [go_sem, Int.reduceLT, Int.reduceLE, Int.reduceEq, e1, e2, e3, rowL_rep, cel0]) ?_) | (refine mcall_ret (inRange) (by simp only [go_sem, Int.reduceLT, Int.reduceLE, Int.reduceEq, e1, e2, e3, rowL_rep, cel0]) (by simp only [go_sem, Int.reduceLT, Int.reduceLE, Int.reduceEq, e1, e2, e3, rowL_rep, cel0]) ?_) | (with_reducible refine And.intro (by first | with_reducible rfl | assumption | (simp only [go_sem]; done)) ?_))
    refine ret_cut hq hw _ (.inl rfl) ?_
    simp [go_sem, hc, e2, e3]
  · have b1 : -12 ≤ e ∧ e ≤ 12 := by simpa using e2
    have b2 : -12 ≤ s ∧ s ≤ 12 := by simpa using e3
    repeat (first | (simp only [go_sem, Int.reduceLT, Int.reduceLE, Int.reduceEq, e1, e2, e3, rowL_rep, cel0]) | (refine And.intro (by omega) ?_) | (refine call_ret (implValidCel) (by simp only [go_sem, Int.reduceLT, Int.reduceLE, Int.reduceEq, e1, e2, e3, rowL_rep, cel0]) ?_) | (refine call_ret (inRange) (by simp only [go_sem, Int.reduceLT, Int.reduceLE, Int.reduceEq, e1, e2, e3, rowL_rep, cel0]) ?_) | (refine call_ret (celMoved hf hg b1 (by omega)) (by simp only [go_sem, Int.reduceLT, Int.reduceLE, Int.reduceEq, e1, e2, e3, rowL_rep, cel0]) ?_) | (refine mcall_ret (implValidCel) (by simp only [go_sem, Int.reduceLT, Int.reduceLE, Int.reduceEq, e1, e2, e3, rowL_rep, cel0]) (by simp only [go_sem, Int.reduceLT, Int.reduceLE, Int.reduceEq, e1, e2, e3, rowL_rep, cel0]) ?_) | (refine mcall_ret (inRange) (by simp only [go_sem, Int.reduceLT, Int.reduceLE, Int.reduceEq, e1, e2, e3, rowL_rep, cel0]) (by simp only [go_sem, Int.reduceLT, Int.reduceLE, Int.reduceEq, e1, e2, e3, rowL_rep, cel0]) ?_) | (refine mcall_ret (celMoved hf hg b1 (by omega)) (by simp only [go_sem, Int.reduceLT, Int.reduceLE, Int.reduceEq, e1, e2, e3, rowL_rep, cel0]) (by simp only [go_sem, Int.reduceLT, Int.reduceLE, Int.reduceEq, e1, e2, e3, rowL_rep, cel0]) ?_) | (with_reducible refine And.intro (by first | with_reducible rfl | assumption | (simp only [go_sem]; done)) ?_))
    refine ret_cut hq hw _ (.inl rfl) ?_
    simp [go_sem, hc, e2, e3]
theorem eqCelSelf {H : List Blk} {f g : Nat → Int} : Cal Try.prog 27 [.a (rowL .u16 12 (f) ++ rowL .u16 12 (g)), .a (rowL .u16 12 (f) ++ rowL .u16 12 (g))] H fun v H' => v = .v (.bool true) ∧ H' = H := by
  have := eqCel (H := H) (f := f) (g := g) (f' := f) (g' := g)
  simpa [allEq_self] using this
theorem lawMoveCel {H : List Blk} {f g : Nat → Int} {e s : Int} (hf : R16 f) (hg : R16 g) : Cal Try.prog 5 [.a (rowL .u16 12 (f) ++ rowL .u16 12 (g)), .v (.int .i64 e), .v (.int .i64 s)] H fun v H' => v = .v (.bool true) ∧ H' = H := by
  refine cal_fn 33 mixed Try.func5 Try.ntmps5 Try.results5 rfl rfl rfl fun hw x hx hq => ?_
  repeat (first | (simp only [go_sem, Int.reduceLT, Int.reduceLE, Int.reduceEq, rowL_rep, cel0]) | (refine And.intro (by omega) ?_) | (refine call_ret (toCel) (by simp only [go_sem, Int.reduceLT, Int.reduceLE, Int.reduceEq, rowL_rep, cel0]) ?_) | (refine call_ret (specMoveCel hf hg) (by simp only [go_sem, Int.reduceLT, Int.reduceLE, Int.reduceEq, rowL_rep, cel0]) ?_) | (refine call_ret (implMoveCel hf hg) (by simp only [go_sem, Int.reduceLT, Int.reduceLE, Int.reduceEq, rowL_rep, cel0]) ?_) | (refine call_ret (eqCelSelf) (by simp only [go_sem, Int.reduceLT, Int.reduceLE, Int.reduceEq, rowL_rep, cel0]) ?_) | (refine mcall_ret (toCel) (by simp only [go_sem, Int.reduceLT, Int.reduceLE, Int.reduceEq, rowL_rep, cel0]) (by simp only [go_sem, Int.reduceLT, Int.reduceLE, Int.reduceEq, rowL_rep, cel0]) ?_) | (refine mcall_ret (specMoveCel hf hg) (by simp only [go_sem, Int.reduceLT, Int.reduceLE, Int.reduceEq, rowL_rep, cel0]) (by simp only [go_sem, Int.reduceLT, Int.reduceLE, Int.reduceEq, rowL_rep, cel0]) ?_) | (refine mcall_ret (implMoveCel hf hg) (by simp only [go_sem, Int.reduceLT, Int.reduceLE, Int.reduceEq, rowL_rep, cel0]) (by simp only [go_sem, Int.reduceLT, Int.reduceLE, Int.reduceEq, rowL_rep, cel0]) ?_) | (refine mcall_ret (eqCelSelf) (by simp only [go_sem, Int.reduceLT, Int.reduceLE, Int.reduceEq, rowL_rep, cel0]) (by simp only [go_sem, Int.reduceLT, Int.reduceLE, Int.reduceEq, rowL_rep, cel0]) ?_) | (with_reducible refine And.intro (by first | with_reducible rfl | assumption | (simp only [go_sem]; done)) ?_))
  refine ret_cut hq hw _ (.inl rfl) ?_
  simp [go_sem]
end Go.Proofs.Ytpginknbmmdmoaa

