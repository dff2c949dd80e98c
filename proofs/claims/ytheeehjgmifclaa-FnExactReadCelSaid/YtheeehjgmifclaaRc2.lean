/- Contracts of functions of the translated program, by the walk. -/
import Derived.Test.YtheeehjgmifclaaRc1
set_option linter.unusedVariables false
set_option linter.unusedSimpArgs false
set_option maxRecDepth 8000
set_option maxHeartbeats 4000000
namespace Go.Proofs.Ytheeehjgmifclaa
open Go Go.Sx
theorem l01Split {H : List Blk} {t : List Int} {by_ : Int} (ht : B8 t) (hl : t.length ≤ 1000000) :
    Cal Try.prog 108 [.v (.string (bstr t)), .v (.int .u8 by_)] H fun u H' => u = .s H.length 0 (spl by_ t).length (.u 0) ∧ H' = H ++ [⟨(spl by_ t).flatMap sC, 9, .own 1⟩] := by
  refine cal_fn 33 mixed Try.func108 Try.ntmps108 Try.results108 rfl rfl rfl fun hw cx hx hq => ?_
  have hn1 : norefH H.length H := norefH_wf hw (Nat.le_refl _)
  have hd1 : (H.length + 1 = H.length) = False := eq_false (by omega)
  have hbs := bstr_size t
  repeat (first | (simp only [go_sem, Int.reduceLT, Int.reduceLE, Int.reduceEq, Int.reduceToNat]) | ((with_reducible refine And.intro ?_ ?_); omega) | ((with_reducible refine And.intro ?_ ?_); first | (with_reducible rfl) | assumption | (simp only [go_sem]; done)))
  refine WK_for (fun q : Nat × List (List Int) × Nat => ⟨[.v (.string (bstr t)), .v (.int .u8 by_), .any, .any, .any, .s H.length 0 q.2.1.length (.u 0), .v (.int .i64 q.2.2), .v (.int .i64 q.1)] ++ junk 27, H ++ [⟨q.2.1.flatMap sC, 9, .own 1⟩]⟩) (fun q => q.1 ≤ t.length ∧ q.2.2 ≤ q.1 ∧ q.2.1.length ≤ q.1 ∧ q.2.1 ++ splA by_ ((t.drop q.2.2).take (q.1 - q.2.2)) (t.drop q.1) = spl by_ t) (fun q => t.length - q.1) (0, [], 0) (Weak.slots ?_) ?_ fun q hq0 => ?_
  · simp [go_sem]
  · exact ⟨Nat.zero_le _, Nat.zero_le _, Nat.zero_le _, rfl⟩
  obtain ⟨i, D, b⟩ := q
  obtain ⟨hi, hb, hD, hs⟩ := hq0
  simp only at hi hb hD hs ⊢
  have hfl : (D.flatMap sC).length = D.length := by rw [flat_sC.flen, Nat.mul_one]
  have hn2 : norefs H.length (D.flatMap sC) = true := flat_sC.norefs _ _
  rcases Int.lt_or_le (i : Int) t.length with hc | hc
  · have hj : i < t.length := by omega
    have hci : ((i : Int) < (t.length : Int)) = True := eq_true hc
    have hat := str_at t ht hj
    rw [List.drop_eq_getElem_cons hj, splA] at hs
    by_cases e : t[i] = by_
    · have e1 : (t[i] = by_) = True := eq_true e
      rw [if_pos e] at hs
      have hx1 : (bstr t).extract b i = bstr ((t.drop b).take (i - b)) := bstr_extract t b i
      repeat (first | (simp only [go_sem, Int.reduceLT, Int.reduceLE, Int.reduceEq, Int.reduceToNat, hbs, hci, hat, e1, hx1, hfl, hn1, hn2, hd1, hx]) | ((with_reducible refine And.intro ?_ ?_); omega) | ((with_reducible refine And.intro ?_ ?_); first | (with_reducible rfl) | assumption | (simp only [go_sem]; done)))
      refine EK_again (i + 1, D ++ [(t.drop b).take (i - b)], i + 1) ?_ ⟨by simp only; omega, Nat.le_refl _, by simp; omega, by simpa using hs⟩ (by simp only; omega)
      simp only [List.flatMap_append, List.flatMap_singleton, List.length_append, List.length_singleton]
      exact Weak.keepN rfl (by simp [go_sem] <;> omega) (by simp [hx]) (by simp [go_sem, flat_sC.lts, sC] <;> omega) (hw.app (by simp [go_sem, flat_sC.lts, sC] <;> omega))
    · have e1 : (t[i] = by_) = False := eq_false e
      rw [if_neg e] at hs
      have htk : (t.drop b).take (i - b) ++ [t[i]] = (t.drop b).take (i + 1 - b) := by
        rw [show i + 1 - b = (i - b) + 1 by omega, List.take_succ_eq_append_getElem (by rw [List.length_drop]; omega), List.getElem_drop]
        congr 2
        congr 1; omega
      rw [htk] at hs
      repeat (first | (simp only [go_sem, Int.reduceLT, Int.reduceLE, Int.reduceEq, Int.reduceToNat, hbs, hci, hat, e1]) | ((with_reducible refine And.intro ?_ ?_); omega) | ((with_reducible refine And.intro ?_ ?_); first | (with_reducible rfl) | assumption | (simp only [go_sem]; done)))
      refine EK_again (i + 1, D, b) (Weak.slots ?_) ⟨by simp only; omega, by simp only; omega, by simp only; omega, hs⟩ (by simp only; omega)
      simp [go_sem]
  · have : i = t.length := by omega
    subst this
    have hci : ((t.length : Int) < (t.length : Int)) = False := eq_false (by omega)
    have hx1 : (bstr t).extract b t.length = bstr ((t.drop b).take (t.length - b)) := bstr_extract t b _
    rw [List.drop_length, splA] at hs
    repeat (first | (simp only [go_sem, Int.reduceLT, Int.reduceLE, Int.reduceEq, Int.reduceToNat, hbs, hci, hx1, hfl, hn1, hn2, hd1, hx]) | ((with_reducible refine And.intro ?_ ?_); omega) | ((with_reducible refine And.intro ?_ ?_); first | (with_reducible rfl) | assumption | (simp only [go_sem]; done)))
    refine ret_one hq hw _ (.inl rfl) 0 rfl (by have hq1 := of_eq_true (flat_sC.lts H.length (D ++ [(t.drop b).take (t.length - b)])); rw [List.flatMap_append, List.flatMap_singleton] at hq1; exact hq1) (.s H.length 0 (spl by_ t).length (.u 0)) (by simp [go_sem] <;> rfl) ?_
    simp [go_sem, ← hs, sC, conc, concs, upσ, Cap.val]
end Go.Proofs.Ytheeehjgmifclaa

