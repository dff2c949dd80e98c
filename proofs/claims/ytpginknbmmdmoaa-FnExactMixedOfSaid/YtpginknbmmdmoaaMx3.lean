/- Contracts of functions of the translated program, by the walk. -/
import Derived.Test.YtpginknbmmdmoaaMx3c
set_option linter.unusedVariables false
set_option linter.unusedSimpArgs false
set_option maxRecDepth 8000
set_option maxHeartbeats 4000000
namespace Go.Proofs.Ytpginknbmmdmoaa
open Go Go.Sx
theorem sd_both {l : List (Nat → Int)} {s : List Int} (h : ∀ x ∈ s, x = 0 ∨ x = 1) (hl : s.length = l.length) (hA : sdA l s 0 = []) (hB : sdA l s 1 = []) : l = [] := by
  cases hk : l.length with
  | zero => exact List.length_eq_zero_iff.1 hk
  | succ k =>
    have hj : k < s.length := by omega
    have e : s[k]?.getD 0 = s[k] := by rw [List.getElem?_eq_getElem hj]; rfl
    unfold sdA at hA hB
    rw [hk] at hA hB
    rcases h _ (List.getElem_mem hj) with e2 | e2
    · rw [sdN_at (by rw [e, e2])] at hA; simp at hA
    · rw [sdN_at (by rw [e, e2])] at hB; simp at hB
theorem lawMixedOf {H : List Blk} {v w : V} {l : List (Nat → Int)} {o : List Int} (h : Rd H v (rowL .u16 12) l) (h2 : Rd H w i64C o) (hR : ∀ f ∈ l, R16 f) (hm : l.length * 24 ≤ 140737488351232) (hm2 : o.length * 8 ≤ 140737488351232) :
    Cal Try.prog 10 [v, w] H fun u H' => u = .v (.bool true) ∧ H' = H := by
  have hsoll := h.solid
  have hsolo := h2.solid
  have hL2 := h2.lenV (P := Try.prog) slTy63
  by_cases hbs : (l.length : Int) ≤ 1000000 - (o.length : Int)
  case neg =>
    have hb2 : ((l.length : Int) ≤ 1000000 - (o.length : Int)) = False := eq_false hbs
    refine cal_fn 152 mixed Try.func10 Try.ntmps10 Try.results10 rfl rfl rfl fun hw cx hx hq => ?_
    repeat (first | (simp only [go_sem, Int.reduceLT, Int.reduceLE, Int.reduceEq, Int.reduceToNat, hsoll, hsolo, hL2, hb2]) | ((with_reducible refine And.intro ?_ ?_); omega) | ((with_reducible refine isSK ?_); first | (refine call_ret (szBookW h (by omega) (by omega)) (by simp only [go_sem, Int.reduceLT, Int.reduceLE, Int.reduceEq, Int.reduceToNat, hsoll, hsolo, hL2, hb2]) ?_)) | ((with_reducible refine isMC ?_); first | (refine mcall_ret (szBookW h (by omega) (by omega)) (by simp only [go_sem, Int.reduceLT, Int.reduceLE, Int.reduceEq, Int.reduceToNat, hsoll, hsolo, hL2, hb2]) (by simp only [go_sem, Int.reduceLT, Int.reduceLE, Int.reduceEq, Int.reduceToNat, hsoll, hsolo, hL2, hb2]) ?_)) | ((with_reducible refine And.intro ?_ ?_); first | (with_reducible rfl) | assumption | (simp only [go_sem]; done)))
    refine ret_same hq _ (.inl rfl) ?_
    simp [go_sem]
  have hbl : l.length ≤ 1000000 := by omega
  have hbo : o.length ≤ 1000000 := by omega
  by_cases hc : mixC l o = 0
  · obtain ⟨_, hlen, h01⟩ := mix_ok hc
    by_cases hnel : l = []
    · have hneo : o = [] := by rw [hnel] at hlen; exact List.length_eq_zero_iff.1 hlen
      exact mixedOfOk11 h h2 hR hbl hbo hbs hc (by rw [hnel]; rfl) (by rw [hnel]; rfl) hnel hneo
    · have hneo : o ≠ [] := by
        rintro rfl
        exact hnel (List.length_eq_zero_iff.1 hlen.symm)
      by_cases hA : sdA l o 0 = [] <;> by_cases hB : sdA l o 1 = []
      · exact absurd (sd_both h01 hlen hA hB) hnel
      · exact mixedOfOk10 h h2 hR hbl hbo hbs hc hA hB hnel hneo
      · exact mixedOfOk01 h h2 hR hbl hbo hbs hc hA hB hnel hneo
      · exact mixedOfOk00 h h2 hR hbl hbo hbs hc hA hB hnel hneo
  by_cases hnel : l = [] <;> by_cases hneo : o = []
  · exact mixedOfErr11 h h2 hR hbl hbo hbs hc hnel hneo
  · exact mixedOfErr10 h h2 hR hbl hbo hbs hc hnel hneo
  · exact mixedOfErr01 h h2 hR hbl hbo hbs hc hnel hneo
  · exact mixedOfErr00 h h2 hR hbl hbo hbs hc hnel hneo
end Go.Proofs.Ytpginknbmmdmoaa

