/- Contracts of functions of the translated program, by the walk. -/
import Derived.Test.YtpjimhkblldhaaaK9
set_option linter.unusedVariables false
set_option linter.unusedSimpArgs false
set_option maxRecDepth 8000
set_option maxHeartbeats 4000000
namespace Go.Proofs.Ytpjimhkblldhaaa
open Go Go.Sx
theorem implSpeedsOf_err {H : List Blk} {v : V} {l : List (Nat → Int)} {e : Int} (h : Rd H v encK l) (hK : ∀ a ∈ l, KyW a) (hl : l.length ≤ 1000000) (hc : paC l e true ≠ 0) :
    Cal Try.prog 25 [v, .v (.int .i64 e)] H fun u H' => u = .t [.v (.slice none 0 0), .v (.int .i64 (paC l e true))] ∧ H' = H := by
  have hsol := h.solid
  have hc0 : (paC l e true = 0) = False := eq_false hc
  refine cal_fn 14 mixed Try.func25 Try.ntmps25 Try.results25 rfl rfl rfl fun hw cx hx hq => ?_
  repeat (first | (simp only [go_sem, Int.reduceLT, Int.reduceLE, Int.reduceEq, Int.reduceToNat, hsol, hc0]) | ((with_reducible refine And.intro ?_ ?_); omega) | ((with_reducible refine isSK ?_); first | (refine call_ret (checkTrack h hK hl) (by simp only [go_sem, Int.reduceLT, Int.reduceLE, Int.reduceEq, Int.reduceToNat, hsol, hc0]) ?_)) | ((with_reducible refine isMC ?_); first | (refine mcall_ret (checkTrack h hK hl) (by simp only [go_sem, Int.reduceLT, Int.reduceLE, Int.reduceEq, Int.reduceToNat, hsol, hc0]) (by simp only [go_sem, Int.reduceLT, Int.reduceLE, Int.reduceEq, Int.reduceToNat, hsol, hc0]) ?_)) | ((with_reducible refine And.intro ?_ ?_); first | (with_reducible rfl) | assumption | (simp only [go_sem]; done)))
  refine ret_same hq _ (.inl rfl) ?_
  simp [go_sem]
theorem implSpeedsOf_ok {H : List Blk} {v : V} {l : List (Nat → Int)} {e : Int} (h : Rd H v encK l) (hK : ∀ a ∈ l, KyW a) (hl : l.length ≤ 1000000) (hc : paC l e true = 0) :
    Cal Try.prog 25 [v, .v (.int .i64 e)] H fun u H' => u = .t [.s H.length 0 (tkN l) (.u 0), .v (.int .i64 0)] ∧ H' = H ++ [⟨(spL l e (tkN l)).flatMap i64C, 2, .own 1⟩] := by
  have hsol := h.solid
  have hv := (paC_ok hc).1
  refine cal_fn 14 mixed Try.func25 Try.ntmps25 Try.results25 rfl rfl rfl fun hw cx hx hq => ?_
  repeat (first | (simp only [go_sem, Int.reduceLT, Int.reduceLE, Int.reduceEq, Int.reduceToNat, hsol, hc]) | ((with_reducible refine And.intro ?_ ?_); omega) | ((with_reducible refine isSK ?_); first | (refine call_ret (checkTrack h hK hl) (by simp only [go_sem, Int.reduceLT, Int.reduceLE, Int.reduceEq, Int.reduceToNat, hsol, hc]) ?_) | (refine call_ret (trackSpeeds h hK hv) (by simp only [go_sem, Int.reduceLT, Int.reduceLE, Int.reduceEq, Int.reduceToNat, hsol, hc]) ?_)) | ((with_reducible refine isMC ?_); first | (refine mcall_ret (checkTrack h hK hl) (by simp only [go_sem, Int.reduceLT, Int.reduceLE, Int.reduceEq, Int.reduceToNat, hsol, hc]) (by simp only [go_sem, Int.reduceLT, Int.reduceLE, Int.reduceEq, Int.reduceToNat, hsol, hc]) ?_) | (refine mcall_ret (trackSpeeds h hK hv) (by simp only [go_sem, Int.reduceLT, Int.reduceLE, Int.reduceEq, Int.reduceToNat, hsol, hc]) (by simp only [go_sem, Int.reduceLT, Int.reduceLE, Int.reduceEq, Int.reduceToNat, hsol, hc]) ?_)) | ((with_reducible refine And.intro ?_ ?_); first | (with_reducible rfl) | assumption | (simp only [go_sem]; done)))
  first | refine ret_at hq _ (.inl rfl) (by simp) ?_ | refine ret_one hq hw _ (.inl rfl) 0 rfl (of_eq_true (flat_i64.lts _ _)) _ (by simp [go_sem]) ?_
  simp [go_sem]
theorem specSpeedsOf_err {H : List Blk} {v : V} {l : List (Nat → Int)} {e : Int} (h : Rd H v encK l) (hK : ∀ a ∈ l, KyW a) (hl : l.length ≤ 1000000) (hc : paC l e true ≠ 0) :
    Cal Try.prog 24 [v, .v (.int .i64 e)] H fun u H' => u = .t [.s H.length 0 0 (.u 0), .v (.int .i64 (paC l e true))] ∧ H' = H ++ [⟨[], 2, .own 1⟩] := by
  have hsol := h.solid
  have hc0 : (paC l e true = 0) = False := eq_false hc
  refine cal_fn 15 mixed Try.func24 Try.ntmps24 Try.results24 rfl rfl rfl fun hw cx hx hq => ?_
  repeat (first | (simp only [go_sem, Int.reduceLT, Int.reduceLE, Int.reduceEq, Int.reduceToNat, hsol, hc0]) | ((with_reducible refine And.intro ?_ ?_); omega) | ((with_reducible refine isSK ?_); first | (refine call_ret (l03Asked h hK hl) (by simp only [go_sem, Int.reduceLT, Int.reduceLE, Int.reduceEq, Int.reduceToNat, hsol, hc0]) ?_)) | ((with_reducible refine isMC ?_); first | (refine mcall_ret (l03Asked h hK hl) (by simp only [go_sem, Int.reduceLT, Int.reduceLE, Int.reduceEq, Int.reduceToNat, hsol, hc0]) (by simp only [go_sem, Int.reduceLT, Int.reduceLE, Int.reduceEq, Int.reduceToNat, hsol, hc0]) ?_)) | ((with_reducible refine And.intro ?_ ?_); first | (with_reducible rfl) | assumption | (simp only [go_sem]; done)))
  refine ret_at hq _ (.inl rfl) (by simp) ?_
  simp [go_sem]
theorem specSpeedsOf_ok {H : List Blk} {v : V} {l : List (Nat → Int)} {e : Int} (h : Rd H v encK l) (hK : ∀ a ∈ l, KyW a) (hl : l.length ≤ 1000000) (hc : paC l e true = 0) :
    Cal Try.prog 24 [v, .v (.int .i64 e)] H fun u H' => u = .t [.s H.length 0 (tkN l) (.u 0), .v (.int .i64 0)] ∧ H' = H ++ [⟨(spL l e (tkN l)).flatMap i64C, 2, .own 1⟩] := by
  have hsol := h.solid
  have hv := (paC_ok hc).1
  refine cal_fn 15 mixed Try.func24 Try.ntmps24 Try.results24 rfl rfl rfl fun hw cx hx hq => ?_
  repeat (first | (simp only [go_sem, Int.reduceLT, Int.reduceLE, Int.reduceEq, Int.reduceToNat, hsol, hc]) | ((with_reducible refine And.intro ?_ ?_); omega) | ((with_reducible refine isSK ?_); first | (refine call_ret (l03Asked h hK hl) (by simp only [go_sem, Int.reduceLT, Int.reduceLE, Int.reduceEq, Int.reduceToNat, hsol, hc]) ?_) | (refine call_ret (l03Speeds h hK hv) (by simp only [go_sem, Int.reduceLT, Int.reduceLE, Int.reduceEq, Int.reduceToNat, hsol, hc]) ?_)) | ((with_reducible refine isMC ?_); first | (refine mcall_ret (l03Asked h hK hl) (by simp only [go_sem, Int.reduceLT, Int.reduceLE, Int.reduceEq, Int.reduceToNat, hsol, hc]) (by simp only [go_sem, Int.reduceLT, Int.reduceLE, Int.reduceEq, Int.reduceToNat, hsol, hc]) ?_) | (refine mcall_ret (l03Speeds h hK hv) (by simp only [go_sem, Int.reduceLT, Int.reduceLE, Int.reduceEq, Int.reduceToNat, hsol, hc]) (by simp only [go_sem, Int.reduceLT, Int.reduceLE, Int.reduceEq, Int.reduceToNat, hsol, hc]) ?_)) | ((with_reducible refine And.intro ?_ ?_); first | (with_reducible rfl) | assumption | (simp only [go_sem]; done)))
  first | refine ret_at hq _ (.inl rfl) (by simp) ?_ | refine ret_one hq hw _ (.inl rfl) 0 rfl (of_eq_true (flat_i64.lts _ _)) _ (by simp [go_sem]) ?_
  simp [go_sem]
theorem implSpeedsOf_okF {H : List Blk} {v : V} {l : List (Nat → Int)} {e : Int} (h : Rd H v encK l) (hK : ∀ a ∈ l, KyW a) (hl : l.length ≤ 1000000) (hc : paC l e true = 0) :
    Cal Try.prog 25 [v, .v (.int .i64 e)] H fun u H' => u = .t [.s H.length 0 (spL l e (tkN l)).length (.u 0), .v (.int .i64 0)] ∧ H' = H ++ [⟨(spL l e (tkN l)).flatMap i64C, 2, .own 1⟩] := by
  rw [spL_len]; exact implSpeedsOf_ok h hK hl hc
theorem specSpeedsOf_okF {H : List Blk} {v : V} {l : List (Nat → Int)} {e : Int} (h : Rd H v encK l) (hK : ∀ a ∈ l, KyW a) (hl : l.length ≤ 1000000) (hc : paC l e true = 0) :
    Cal Try.prog 24 [v, .v (.int .i64 e)] H fun u H' => u = .t [.s H.length 0 (spL l e (tkN l)).length (.u 0), .v (.int .i64 0)] ∧ H' = H ++ [⟨(spL l e (tkN l)).flatMap i64C, 2, .own 1⟩] := by
  rw [spL_len]; exact specSpeedsOf_ok h hK hl hc
end Go.Proofs.Ytpjimhkblldhaaa

