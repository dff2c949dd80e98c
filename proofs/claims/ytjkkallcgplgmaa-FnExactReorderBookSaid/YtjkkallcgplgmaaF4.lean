/- Contracts of functions of the translated program, by the walk. -/
import Derived.Test.YtjkkallcgplgmaaF3
import Derived.Test.YtjkkallcgplgmaaD4
import Derived.Test.YtjkkallcgplgmaaB3
set_option linter.unusedVariables false
set_option linter.unusedSimpArgs false
set_option maxRecDepth 8000
set_option maxHeartbeats 4000000
namespace Go.Proofs.Ytjkkallcgplgmaa
open Go Go.Sx

theorem implReorderBook_err {H : List Blk} {v w : V} {l : List (Nat → Int)} {o : List Int} (h : Rd H v (rowL .u16 12) l) (h2 : Rd H w i64C o) (hl : l.length ≤ 1000000) (hlo : o.length ≤ 1000000) (hc : orC l o ≠ 0) :
    Cal Try.prog 48 [v, w] H fun u H' => u = .t [.v (.slice none 0 0), .v (.int .i64 (orC l o))] ∧ H' = H := by
  have hsol := h.solid
  have hsol2 := h2.solid
  have hne : (orC l o = 0) = False := eq_false hc
  refine cal_fn 14 mixed Try.func48 Try.ntmps48 Try.results48 rfl rfl rfl fun hw cx hx hq => ?_
  repeat (first | (simp only [go_sem, Int.reduceLT, Int.reduceLE, Int.reduceEq, Int.reduceToNat, hsol, hsol2, hne]) | ((with_reducible refine And.intro ?_ ?_); omega) | ((with_reducible refine isSK ?_); first | (refine call_ret (checkOrder h h2 hl hlo) (by simp only [go_sem, Int.reduceLT, Int.reduceLE, Int.reduceEq, Int.reduceToNat, hsol, hsol2, hne]) ?_)) | ((with_reducible refine isMC ?_); first | (refine mcall_ret (checkOrder h h2 hl hlo) (by simp only [go_sem, Int.reduceLT, Int.reduceLE, Int.reduceEq, Int.reduceToNat, hsol, hsol2, hne]) (by simp only [go_sem, Int.reduceLT, Int.reduceLE, Int.reduceEq, Int.reduceToNat, hsol, hsol2, hne]) ?_)) | ((with_reducible refine And.intro ?_ ?_); first | (with_reducible rfl) | assumption | (simp only [go_sem]; done)))
  refine ret_same hq _ (.inl rfl) ?_
  simp [go_sem]
theorem implReorderBook_ok {H : List Blk} {v w : V} {l : List (Nat → Int)} {o : List Int} (h : Rd H v (rowL .u16 12) l) (h2 : Rd H w i64C o) (hl : l.length ≤ 1000000) (hlo : o.length ≤ 1000000) (hc : orC l o = 0) :
    Cal Try.prog 48 [v, w] H fun u H' => u = .t [.s H.length 0 (inO l o).length (.u 0), .v (.int .i64 0)] ∧ H' = H ++ [⟨(inO l o).flatMap (rowL .u16 12), 64, .own 12⟩] := by
  have hsol := h.solid
  have hsol2 := h2.solid
  have hne : (orC l o = 0) = True := eq_true hc
  refine cal_fn 14 mixed Try.func48 Try.ntmps48 Try.results48 rfl rfl rfl fun hw cx hx hq => ?_
  repeat (first | (simp only [go_sem, Int.reduceLT, Int.reduceLE, Int.reduceEq, Int.reduceToNat, hsol, hsol2, hne]) | ((with_reducible refine And.intro ?_ ?_); omega) | ((with_reducible refine isSK ?_); first | (refine call_ret (checkOrder h h2 hl hlo) (by simp only [go_sem, Int.reduceLT, Int.reduceLE, Int.reduceEq, Int.reduceToNat, hsol, hsol2, hne]) ?_) | (refine call_ret (inOrder (l := l) (o := o) h h2 (orC_okI hc) hlo) (by simp only [go_sem, Int.reduceLT, Int.reduceLE, Int.reduceEq, Int.reduceToNat, hsol, hsol2, hne]) ?_)) | ((with_reducible refine isMC ?_); first | (refine mcall_ret (checkOrder h h2 hl hlo) (by simp only [go_sem, Int.reduceLT, Int.reduceLE, Int.reduceEq, Int.reduceToNat, hsol, hsol2, hne]) (by simp only [go_sem, Int.reduceLT, Int.reduceLE, Int.reduceEq, Int.reduceToNat, hsol, hsol2, hne]) ?_) | (refine mcall_ret (inOrder (l := l) (o := o) h h2 (orC_okI hc) hlo) (by simp only [go_sem, Int.reduceLT, Int.reduceLE, Int.reduceEq, Int.reduceToNat, hsol, hsol2, hne]) (by simp only [go_sem, Int.reduceLT, Int.reduceLE, Int.reduceEq, Int.reduceToNat, hsol, hsol2, hne]) ?_)) | ((with_reducible refine And.intro ?_ ?_); first | (with_reducible rfl) | assumption | (simp only [go_sem]; done)))
  refine ret_at hq _ (.inl rfl) (by simp) ?_
  simp [go_sem, hc]
theorem specReorderBook_err {H : List Blk} {v w : V} {l : List (Nat → Int)} {o : List Int} (h : Rd H v (rowL .u16 12) l) (h2 : Rd H w i64C o) (hk : KC w) (hl : l.length ≤ 1000000) (hlo : o.length ≤ 1000000) (hc : orC l o ≠ 0) :
    Cal Try.prog 46 [v, w] H fun u H' => u = .t [.s H.length 0 0 (.u 0), .v (.int .i64 (orC l o))] ∧ H' = H ++ [⟨[], 64, .own 12⟩] := by
  have hsol := h.solid
  have hsol2 := h2.solid
  have hne : (orC l o = 0) = False := eq_false hc
  refine cal_fn 15 mixed Try.func46 Try.ntmps46 Try.results46 rfl rfl rfl fun hw cx hx hq => ?_
  repeat (first | (simp only [go_sem, Int.reduceLT, Int.reduceLE, Int.reduceEq, Int.reduceToNat, hsol, hsol2, hne]) | ((with_reducible refine And.intro ?_ ?_); omega) | ((with_reducible refine isSK ?_); first | (refine call_ret (l04Ordered h h2 hk hl hlo) (by simp only [go_sem, Int.reduceLT, Int.reduceLE, Int.reduceEq, Int.reduceToNat, hsol, hsol2, hne]) ?_)) | ((with_reducible refine isMC ?_); first | (refine mcall_ret (l04Ordered h h2 hk hl hlo) (by simp only [go_sem, Int.reduceLT, Int.reduceLE, Int.reduceEq, Int.reduceToNat, hsol, hsol2, hne]) (by simp only [go_sem, Int.reduceLT, Int.reduceLE, Int.reduceEq, Int.reduceToNat, hsol, hsol2, hne]) ?_)) | ((with_reducible refine And.intro ?_ ?_); first | (with_reducible rfl) | assumption | (simp only [go_sem]; done)))
  refine ret_at hq _ (.inl rfl) (by simp) ?_
  simp [go_sem]
theorem specReorderBook_ok {H : List Blk} {v w : V} {l : List (Nat → Int)} {o : List Int} (h : Rd H v (rowL .u16 12) l) (h2 : Rd H w i64C o) (hk : KC w) (hl : l.length ≤ 1000000) (hlo : o.length ≤ 1000000) (hc : orC l o = 0) :
    Cal Try.prog 46 [v, w] H fun u H' => u = .t [.s H.length 0 (inO l o).length (.u 0), .v (.int .i64 0)] ∧ H' = H ++ [⟨(inO l o).flatMap (rowL .u16 12), 64, .own 12⟩] := by
  have hsol := h.solid
  have hsol2 := h2.solid
  have hne : (orC l o = 0) = True := eq_true hc
  refine cal_fn 15 mixed Try.func46 Try.ntmps46 Try.results46 rfl rfl rfl fun hw cx hx hq => ?_
  repeat (first | (simp only [go_sem, Int.reduceLT, Int.reduceLE, Int.reduceEq, Int.reduceToNat, hsol, hsol2, hne]) | ((with_reducible refine And.intro ?_ ?_); omega) | ((with_reducible refine isSK ?_); first | (refine call_ret (l04Ordered h h2 hk hl hlo) (by simp only [go_sem, Int.reduceLT, Int.reduceLE, Int.reduceEq, Int.reduceToNat, hsol, hsol2, hne]) ?_) | (refine call_ret (l04Pages (l := l) (o := o) h h2 (orC_okI hc) hlo) (by simp only [go_sem, Int.reduceLT, Int.reduceLE, Int.reduceEq, Int.reduceToNat, hsol, hsol2, hne]) ?_)) | ((with_reducible refine isMC ?_); first | (refine mcall_ret (l04Ordered h h2 hk hl hlo) (by simp only [go_sem, Int.reduceLT, Int.reduceLE, Int.reduceEq, Int.reduceToNat, hsol, hsol2, hne]) (by simp only [go_sem, Int.reduceLT, Int.reduceLE, Int.reduceEq, Int.reduceToNat, hsol, hsol2, hne]) ?_) | (refine mcall_ret (l04Pages (l := l) (o := o) h h2 (orC_okI hc) hlo) (by simp only [go_sem, Int.reduceLT, Int.reduceLE, Int.reduceEq, Int.reduceToNat, hsol, hsol2, hne]) (by simp only [go_sem, Int.reduceLT, Int.reduceLE, Int.reduceEq, Int.reduceToNat, hsol, hsol2, hne]) ?_)) | ((with_reducible refine And.intro ?_ ?_); first | (with_reducible rfl) | assumption | (simp only [go_sem]; done)))
  refine ret_at hq _ (.inl rfl) (by simp) ?_
  simp [go_sem, hc]
end Go.Proofs.Ytjkkallcgplgmaa

