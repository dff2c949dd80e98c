/- Contracts of functions of the translated program, by the walk. -/
import Derived.Test.YtjkkallcgplgmaaG4b
set_option linter.unusedVariables false
set_option linter.unusedSimpArgs false
set_option maxRecDepth 8000
set_option maxHeartbeats 4000000
namespace Go.Proofs.Ytjkkallcgplgmaa
open Go Go.Sx
theorem lawTurnsFor {H : List Blk} {v w : V} {l : List (Nat → Int)} {o : List Int} (h : Rd H v (rowL .u16 12) l) (h2 : Rd H w i64C o) (hR : ∀ f ∈ l, R16 f) (hm : l.length * 24 ≤ 140737488351232) (hm2 : o.length * 8 ≤ 140737488351232) :
    Cal Try.prog 14 [v, w] H fun u H' => u = .v (.bool true) ∧ H' = H := by
  have hsoll := h.solid
  have hsolo := h2.solid
  have hL2 := h2.lenV (P := Try.prog) slTy41
  by_cases hbs : (l.length : Int) ≤ 1000000 - (o.length : Int)
  case neg =>
    have hb2 : ((l.length : Int) ≤ 1000000 - (o.length : Int)) = False := eq_false hbs
    refine cal_fn 115 mixed Try.func14 Try.ntmps14 Try.results14 rfl rfl rfl fun hw cx hx hq => ?_
    repeat (first | (simp only [go_sem, Int.reduceLT, Int.reduceLE, Int.reduceEq, Int.reduceToNat, hsoll, hsolo, hL2, hb2]) | ((with_reducible refine And.intro ?_ ?_); omega) | ((with_reducible refine isSK ?_); first | (refine call_ret (szBookW h (by omega) (by omega)) (by simp only [go_sem, Int.reduceLT, Int.reduceLE, Int.reduceEq, Int.reduceToNat, hsoll, hsolo, hL2, hb2]) ?_)) | ((with_reducible refine isMC ?_); first | (refine mcall_ret (szBookW h (by omega) (by omega)) (by simp only [go_sem, Int.reduceLT, Int.reduceLE, Int.reduceEq, Int.reduceToNat, hsoll, hsolo, hL2, hb2]) (by simp only [go_sem, Int.reduceLT, Int.reduceLE, Int.reduceEq, Int.reduceToNat, hsoll, hsolo, hL2, hb2]) ?_)) | ((with_reducible refine And.intro ?_ ?_); first | (with_reducible rfl) | assumption | (simp only [go_sem]; done)))
    refine ret_same hq _ (.inl rfl) ?_
    simp [go_sem]
  have hbl : l.length ≤ 1000000 := by omega
  have hbo : o.length ≤ 1000000 := by omega
  by_cases hc : orC l o = 0
  · by_cases hnel : l = []
    · have hneo : o = [] := by
        have := (orC_ok hc).2.1; rw [hnel] at this; exact List.length_eq_zero_iff.1 this
      exact turnsForOk1 h h2 hR hbl hbo hbs hc hnel hneo
    · have hneo : o ≠ [] := by
        rintro rfl
        have := (orC_ok hc).2.1; exact hnel (List.length_eq_zero_iff.1 this.symm)
      exact turnsForOk0 h h2 hR hbl hbo hbs hc hnel hneo
  by_cases hnel : l = [] <;> by_cases hneo : o = []
  · exact turnsForErr11 h h2 hR hbl hbo hbs hc hnel hneo
  · exact turnsForErr10 h h2 hR hbl hbo hbs hc hnel hneo
  · exact turnsForErr01 h h2 hR hbl hbo hbs hc hnel hneo
  · exact turnsForErr00 h h2 hR hbl hbo hbs hc hnel hneo
end Go.Proofs.Ytjkkallcgplgmaa

