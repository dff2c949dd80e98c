/- Contracts of functions of the translated program, by the walk. -/
import Derived.Test.YtheeehjgmifclaaB1
set_option linter.unusedVariables false
set_option linter.unusedSimpArgs false
set_option maxRecDepth 8000
set_option maxHeartbeats 4000000
namespace Go.Proofs.Ytheeehjgmifclaa
open Go Go.Sx
/-- slices.IndexFunc. -/
theorem indexFuncR {H : List Blk} {v : V} {l : List (Nat → Int)} {p : (Nat → Int) → Bool} {fn : Nat} {cs : List V} (h : Rd H v (rowL .u16 12) l) (hm : l.length ≤ 9223372036854775806)
    (hp : ∀ j (hj : j < l.length), ∀ L, Cal Try.prog fn (.a ((rowL .u16 12) l[j]) :: cs) (H ++ L) fun v H' => v = .v (.bool (p l[j])) ∧ H' = H ++ L) :
    Cal Try.prog 84 [v, .f fn cs] H fun u H' => u = .v (.int .i64 (idxL p l)) ∧ H' = H := by
  have hL := h.lenV (P := Try.prog) slTy98
  refine cal_fn 17 mixed Try.func84 Try.ntmps84 Try.results84 rfl rfl rfl fun hw cx hx hq => ?_
  simp only [go_sem, hL]
  refine WK_for (fun n : Nat => ⟨[v, .f fn cs, .any, .any, .any, .any, .any, .v (.int .i64 l.length), .v (.int .i64 n)] ++ junk 10, H⟩) (fun n => n ≤ l.length ∧ ∀ j (hj : j < l.length), j < n → p l[j] = false) (fun n => l.length - n) 0 (Weak.slots ?_) ?_ fun n hn => ?_
  · simp [go_sem]
  · simp
  rcases Int.lt_or_le (n : Int) l.length with hc | hc
  · have hj : n < l.length := by omega
    obtain ⟨i, off, c, bl, rfl, hat⟩ := h.row (by omega)
    have hfit := hat.fits (rowL .u16 12) 12 (fun _ => rowL_length ..) hj (by omega)
    have hq' := hp n hj []
    rw [List.append_nil] at hq'
    simp only [go_sem, hc, hat.get, hat.live, hat.elem (rowL .u16 12) 12 (fun _ => rowL_length ..) hj]
    repeat (refine And.intro (by omega) ?_)
    refine call_ret hq' (by simp only [go_sem]) ?_
    simp only [go_sem]
    refine ⟨fun e => ?_, fun e => ?_⟩
    · refine ret_same hq _ (.inl rfl) ?_
      simp only [go_sem]
      rw [idxL_at hj e hn.2]
    · repeat (refine And.intro (by omega) ?_)
      refine EK_again (n + 1) (Weak.slots (by simp [go_sem])) ⟨by omega, fun j hj2 hj3 => ?_⟩ (by omega)
      by_cases e2 : j = n
      · subst e2; exact e
      · exact hn.2 j hj2 (by omega)
  · simp only [go_sem, Int.not_lt.2 hc]
    refine ret_same hq _ (.inl rfl) ?_
    simp only [go_sem]
    rw [idxL_none fun j hj => hn.2 j hj (by omega)]
end Go.Proofs.Ytheeehjgmifclaa


