/- Contracts of functions of the translated program, by the walk. -/
import Derived.Test.YtjkkallcgplgmaaTb3
set_option linter.unusedVariables false
set_option linter.unusedSimpArgs false
set_option maxRecDepth 8000
set_option maxHeartbeats 4000000
namespace Go.Proofs.Ytjkkallcgplgmaa
open Go Go.Sx
/-- The reference's choice: the first of the least of those that are not in. -/
def bsS (near : Nat → Int) (I : Nat → Bool) : Nat → Int × Int
  | 0 => (-1, 0)
  | c + 1 => if I c = true then bsS near I c else if (bsS near I c).1 < 0 ∨ near c < (bsS near I c).2 then ((c : Int), near c) else bsS near I c
def outL (I : Nat → Bool) (c : Nat) : List Nat := (List.range c).filter fun j => !I j
theorem outL_succ (I : Nat → Bool) (c : Nat) : outL I (c + 1) = outL I c ++ (if I c = true then [] else [c]) := by
  unfold outL
  rw [List.range_succ, List.filter_append]
  congr 1
  cases h : I c <;> simp [h]
theorem bsS_out (near : Nat → Int) (I : Nat → Bool) : ∀ c, (outL I c = [] → bsS near I c = (-1, 0)) ∧ ∀ a r, outL I c = a :: r → bsS near I c = (((fmin near a r : Nat) : Int), near (fmin near a r))
  | 0 => ⟨fun _ => rfl, fun a r h => by simp [outL] at h⟩
  | c + 1 => by
    have ih := bsS_out near I c
    rw [outL_succ, bsS]
    cases hI : I c
    · simp only [Bool.false_eq_true, if_false]
      refine ⟨fun h => by simp at h, fun a r h => ?_⟩
      cases ho : outL I c with
      | nil =>
        rw [ho] at h
        obtain ⟨rfl, rfl⟩ : c = a ∧ [] = r := by simpa using h
        rw [ih.1 ho, if_pos (.inl (by decide))]; rfl
      | cons b s =>
        rw [ho] at h
        obtain ⟨rfl, rfl⟩ : b = a ∧ s ++ [c] = r := by simpa using h
        rw [ih.2 _ _ ho, fmin_snoc]
        by_cases h5 : near c < near (fmin near b s)
        · rw [if_pos (.inr h5), if_pos h5]
        · rw [if_neg (by simp only; omega), if_neg h5]
    · simp only [if_true, List.append_nil]
      exact ih
end Go.Proofs.Ytjkkallcgplgmaa

