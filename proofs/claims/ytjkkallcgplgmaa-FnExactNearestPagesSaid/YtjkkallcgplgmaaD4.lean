/- Contracts of functions of the translated program, by the walk. -/
import Derived.Test.YtjkkallcgplgmaaC6
import Derived.Test.YtjkkallcgplgmaaB5
import Derived.Test.YtjkkallcgplgmaaLD
set_option linter.unusedVariables false
set_option linter.unusedSimpArgs false
set_option maxRecDepth 8000
set_option maxHeartbeats 4000000
namespace Go.Proofs.Ytjkkallcgplgmaa
open Go Go.Sx
def hasI (o : List Int) (k : Int) : Bool := o.any fun y => decide (y = k)
theorem hasI_iff {o : List Int} {k : Int} : hasI o k = true ↔ k ∈ o := by
  unfold hasI; simp only [List.any_eq_true, decide_eq_true_eq]
  constructor
  · rintro ⟨y, h, rfl⟩; exact h
  · intro h; exact ⟨k, h, rfl⟩
theorem l00Has {H : List Blk} {v : V} {l : List Int} {x : Int} (h : Rd H v i64C l) (hl : l.length ≤ 1000000) :
    Cal Try.prog 86 [v, .v (.int .i64 x)] H fun u H' => u = .v (.bool (hasI l x)) ∧ H' = H := by
  have hsol := h.solid
  have hL := h.lenV (P := Try.prog) slTy41
  refine cal_fn 16 mixed Try.func86 Try.ntmps86 Try.results86 rfl rfl rfl fun hw cx hx hq => ?_
  repeat (first | (simp only [go_sem, Int.reduceLT, Int.reduceLE, Int.reduceEq, Int.reduceToNat, hsol]) | ((with_reducible refine And.intro ?_ ?_); omega) | ((with_reducible refine And.intro ?_ ?_); first | (with_reducible rfl) | assumption | (simp only [go_sem]; done)))
  refine WK_for (fun n : Nat => ⟨[v, .v (.int .i64 x), .any, .any, .any, .v (.int .i64 n)] ++ junk 12, H⟩) (fun n => n ≤ l.length ∧ ∀ j (hj : j < l.length), j < n → l[j] ≠ x) (fun n => l.length - n) 0 (Weak.slots ?_) ?_ fun n hn => ?_
  · simp [go_sem]
  · simp
  rcases Int.lt_or_le (n : Int) l.length with hc | hc
  · have hj : n < l.length := by omega
    obtain ⟨i, off, c, b, rfl, hat⟩ := h.row (by omega)
    have hll := hat.len (by rw [flat_i64.flen]; omega)
    rw [flat_i64.flen] at hll
    have hz := hat.i64 hj
    by_cases e : l[n] = x
    · have e1 : (l[n] = x) = True := eq_true e
      have e2 : hasI l x = true := hasI_iff.2 (e ▸ List.getElem_mem hj)
      repeat (first | (simp only [go_sem, Int.reduceLT, Int.reduceLE, Int.reduceEq, Int.reduceToNat, hL, hc, hat.get, hat.live, hz, e1]) | ((with_reducible refine And.intro ?_ ?_); omega) | ((with_reducible refine And.intro ?_ ?_); first | (with_reducible rfl) | assumption | (simp only [go_sem]; done)))
      refine ret_same hq _ (.inl rfl) ?_
      simp [go_sem, e2]
    · have e1 : (l[n] = x) = False := eq_false e
      repeat (first | (simp only [go_sem, Int.reduceLT, Int.reduceLE, Int.reduceEq, Int.reduceToNat, hL, hc, hat.get, hat.live, hz, e1]) | ((with_reducible refine And.intro ?_ ?_); omega) | ((with_reducible refine And.intro ?_ ?_); first | (with_reducible rfl) | assumption | (simp only [go_sem]; done)))
      refine EK_again (n + 1) (Weak.slots (by simp [go_sem])) ⟨by omega, fun j hj2 hj3 => ?_⟩ (by omega)
      by_cases e2 : j = n
      · subst e2; exact e
      · exact hn.2 j hj2 (by omega)
  · have e2 : hasI l x = false := by
      rw [Bool.eq_false_iff]; intro h2
      obtain ⟨j, hj, e⟩ := List.mem_iff_getElem.1 (hasI_iff.1 h2)
      exact hn.2 j hj (by omega) e
    repeat (first | (simp only [go_sem, Int.reduceLT, Int.reduceLE, Int.reduceEq, Int.reduceToNat, hL, Int.not_lt.2 hc]) | ((with_reducible refine And.intro ?_ ?_); omega) | ((with_reducible refine And.intro ?_ ?_); first | (with_reducible rfl) | assumption | (simp only [go_sem]; done)))
    refine ret_same hq _ (.inl rfl) ?_
    simp [go_sem, e2]
end Go.Proofs.Ytjkkallcgplgmaa

