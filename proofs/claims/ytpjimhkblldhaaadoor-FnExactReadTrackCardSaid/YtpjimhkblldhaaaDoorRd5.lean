/- Contracts of functions of the translated program, by the walk. -/
import Derived.Test.YtpjimhkblldhaaaDoorRd4
set_option linter.unusedVariables false
set_option linter.unusedSimpArgs false
set_option maxRecDepth 8000
set_option maxHeartbeats 4000000
namespace Go.Proofs.YtpjimhkblldhaaaDoor
open Go Go.Sx
/-- The words of a text: none of the empty one. -/
def wds (t : List Int) : List (List Int) := if t = [] then [] else spl 32 t
theorem wds_8 {t : List Int} (h : B8 t) : ∀ w ∈ wds t, B8 w := by
  unfold wds; split
  · intro w hw; cases hw
  · exact spl_8 h
theorem wds_wlen (t : List Int) : ∀ w ∈ wds t, w.length ≤ t.length := by
  unfold wds; split
  · intro w hw; cases hw
  · exact spl_wlen 32 t
theorem wds_len (t : List Int) : (wds t).length ≤ t.length + 1 := by
  unfold wds; split
  · simp
  · exact spl_len_le 32 t []
theorem wordsNil {H : List Blk} : Cal Tryd.prog 39 [.v (.string (bstr []))] H fun u H' => u = .v (.slice none 0 0) ∧ H' = H := by
  refine cal_fn 6 mixed Tryd.func39 Tryd.ntmps39 Tryd.results39 rfl rfl rfl fun hw cx hx hq => ?_
  repeat (first | (simp only [go_sem, Int.reduceLT, Int.reduceLE, Int.reduceEq, Int.reduceToNat, bs0]) | ((with_reducible refine And.intro ?_ ?_); omega) | ((with_reducible refine And.intro ?_ ?_); first | (with_reducible rfl) | assumption | (simp only [go_sem]; done)))
  refine ret_same hq _ (.inl rfl) ?_
  simp [go_sem]
theorem wordsC {H : List Blk} (hp : PinR H) {t : List Int} (h8 : B8 t) (hl : t.length ≤ 1000000) (h0 : t ≠ []) :
    Cal Tryd.prog 39 [.v (.string (bstr t))] H fun u H' => u = .s H.length 0 (wds t).length (.u 0) ∧ H' = H ++ [⟨(wds t).flatMap sC, 9, .own 1⟩] := by
  have hn0 : ((bstr t).toList = (bstr []).toList) = False := eq_false (by rw [bstr_toL, bstr_toL]; intro h; exact h0 (u8L_inj h8 (fun x hx => by cases hx) h))
  have ew : wds t = spl 32 t := if_neg h0
  rw [ew]
  refine cal_fn 6 mixed Tryd.func39 Tryd.ntmps39 Tryd.results39 rfl rfl rfl fun hw cx hx hq => ?_
  repeat (first | (simp only [go_sem, Int.reduceLT, Int.reduceLE, Int.reduceEq, Int.reduceToNat, bs0, bs32, hn0]) | ((with_reducible refine And.intro ?_ ?_); omega) | ((with_reducible refine isSK ?_); first | (refine call_ret (splitC (by first | exact hp | exact hp.app) h8 hl) (by simp only [go_sem, Int.reduceLT, Int.reduceLE, Int.reduceEq, Int.reduceToNat, bs0, bs32, hn0]) ?_)) | ((with_reducible refine isMC ?_); first | (refine mcall_ret (splitC (by first | exact hp | exact hp.app) h8 hl) (by simp only [go_sem, Int.reduceLT, Int.reduceLE, Int.reduceEq, Int.reduceToNat, bs0, bs32, hn0]) (by simp only [go_sem, Int.reduceLT, Int.reduceLE, Int.reduceEq, Int.reduceToNat, bs0, bs32, hn0]) ?_)) | ((with_reducible refine And.intro ?_ ?_); first | (with_reducible rfl) | assumption | (simp only [go_sem]; done)))
  refine ret_at hq _ (.inl rfl) (by simp) ?_
  simp [go_sem]
end Go.Proofs.YtpjimhkblldhaaaDoor

