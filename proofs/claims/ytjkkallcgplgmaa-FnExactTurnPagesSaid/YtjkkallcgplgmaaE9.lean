/- Contracts of functions of the translated program, by the walk. -/
import Derived.Test.YtjkkallcgplgmaaE8
set_option linter.unusedVariables false
set_option linter.unusedSimpArgs false
set_option maxRecDepth 8000
set_option maxHeartbeats 4000000
namespace Go.Proofs.Ytjkkallcgplgmaa
open Go Go.Sx
theorem lawTurnPages {H : List Blk} {v w : V} {l Q : List (Nat → Int)} (h : Rd H v (rowL .u16 12) l) (h2 : Rd H w (rowL .i64 2) Q) (hm : l.length ≤ 9223372036854775807) (hm2 : Q.length ≤ 9223372036854775807) :
    Cal Try.prog 4 [v, w] H fun u H' => u = .v (.bool true) ∧ H' = H := by
  have hsoll := h.solid
  have hsolQ := h2.solid
  by_cases hbl : l.length ≤ 1000000
  case neg =>
    have hb2 : ((l.length : Int) ≤ 1000000) = False := eq_false (by omega)
    refine cal_fn 117 mixed Try.func4 Try.ntmps4 Try.results4 rfl rfl rfl fun hw cx hx hq => ?_
    repeat (first | (simp only [go_sem, Int.reduceLT, Int.reduceLE, Int.reduceEq, Int.reduceToNat, hsoll, hsolQ, hb2]) | ((with_reducible refine And.intro ?_ ?_); omega) | ((with_reducible refine isSK ?_); first | (refine call_ret (szBook h (by omega) (.inl rfl)) (by simp only [go_sem, Int.reduceLT, Int.reduceLE, Int.reduceEq, Int.reduceToNat, hsoll, hsolQ, hb2]) ?_)) | ((with_reducible refine isMC ?_); first | (refine mcall_ret (szBook h (by omega) (.inl rfl)) (by simp only [go_sem, Int.reduceLT, Int.reduceLE, Int.reduceEq, Int.reduceToNat, hsoll, hsolQ, hb2]) (by simp only [go_sem, Int.reduceLT, Int.reduceLE, Int.reduceEq, Int.reduceToNat, hsoll, hsolQ, hb2]) ?_)) | ((with_reducible refine And.intro ?_ ?_); first | (with_reducible rfl) | assumption | (simp only [go_sem]; done)))
    refine ret_same hq _ (.inl rfl) ?_
    simp [go_sem]
  have hb2 : ((l.length : Int) ≤ 1000000) = True := eq_true (by omega)
  have hb3 : ((1000000 : Int) - l.length < 0) = False := eq_false (by omega)
  by_cases hbq : Q.length ≤ 1000000 - l.length
  case neg =>
    have hb4 : ((Q.length : Int) ≤ 1000000 - (l.length : Int)) = False := eq_false (by omega)
    refine cal_fn 117 mixed Try.func4 Try.ntmps4 Try.results4 rfl rfl rfl fun hw cx hx hq => ?_
    repeat (first | (simp only [go_sem, Int.reduceLT, Int.reduceLE, Int.reduceEq, Int.reduceToNat, hsoll, hsolQ, hb2, hb3, hb4]) | ((with_reducible refine And.intro ?_ ?_); omega) | ((with_reducible refine isSK ?_); first | (refine call_ret (szBook h (by omega) (.inl rfl)) (by simp only [go_sem, Int.reduceLT, Int.reduceLE, Int.reduceEq, Int.reduceToNat, hsoll, hsolQ, hb2, hb3, hb4]) ?_) | (refine call_ret (szInt64A2S h2 (by omega) (.inr (by omega))) (by simp only [go_sem, Int.reduceLT, Int.reduceLE, Int.reduceEq, Int.reduceToNat, hsoll, hsolQ, hb2, hb3, hb4]) ?_)) | ((with_reducible refine isMC ?_); first | (refine mcall_ret (szBook h (by omega) (.inl rfl)) (by simp only [go_sem, Int.reduceLT, Int.reduceLE, Int.reduceEq, Int.reduceToNat, hsoll, hsolQ, hb2, hb3, hb4]) (by simp only [go_sem, Int.reduceLT, Int.reduceLE, Int.reduceEq, Int.reduceToNat, hsoll, hsolQ, hb2, hb3, hb4]) ?_) | (refine mcall_ret (szInt64A2S h2 (by omega) (.inr (by omega))) (by simp only [go_sem, Int.reduceLT, Int.reduceLE, Int.reduceEq, Int.reduceToNat, hsoll, hsolQ, hb2, hb3, hb4]) (by simp only [go_sem, Int.reduceLT, Int.reduceLE, Int.reduceEq, Int.reduceToNat, hsoll, hsolQ, hb2, hb3, hb4]) ?_)) | ((with_reducible refine And.intro ?_ ?_); first | (with_reducible rfl) | assumption | (simp only [go_sem]; done)))
    refine ret_same hq _ (.inl rfl) ?_
    simp [go_sem]
  by_cases hc : okB l = false ∨ 200 < Q.length
  · by_cases hnel : l = [] <;> by_cases hneQ : Q = []
    · exact turnEarly11 h h2 hbl hbq hc hnel hneQ
    · exact turnEarly10 h h2 hbl hbq hc hnel hneQ
    · exact turnEarly01 h h2 hbl hbq hc hnel hneQ
    · exact turnEarly00 h h2 hbl hbq hc hnel hneQ
  have e : okB l = true := by cases e : okB l; · exact absurd (.inl e) hc
                              · rfl
  have e3 : Q.length ≤ 200 := by
    apply Nat.not_lt.1; intro h3; exact hc (.inr h3)
  by_cases hbad : ∃ f ∈ Q, validT l.length f = false
  · have hneQ : Q ≠ [] := by rintro rfl; obtain ⟨f, hf, _⟩ := hbad; cases hf
    by_cases hnel : l = []
    · exact turnBad1 h h2 hbl hbq e e3 hbad hneQ hnel
    · exact turnBad0 h h2 hbl hbq e e3 hbad hneQ hnel
  have hall : ∀ f ∈ Q, validT l.length f = true := fun f hf => by
    cases e5 : validT l.length f
    · exact absurd ⟨f, hf, e5⟩ hbad
    · rfl
  by_cases hnel : l = []
  · have hneQ : Q = [] := by
      cases Q with
      | nil => rfl
      | cons f fs =>
        have := validT_iff.1 (hall f (List.mem_cons_self ..))
        rw [hnel] at this; simp at this; omega
    exact turnOk11 h h2 hbl hbq e e3 hall hnel hneQ
  · by_cases hneQ : Q = []
    · exact turnOk01 h h2 hbl hbq e e3 hall hnel hneQ
    · exact turnOk00 h h2 hbl hbq e e3 hall hnel hneQ
end Go.Proofs.Ytjkkallcgplgmaa

