/- Contracts of functions of the translated program, by the walk. -/
import Derived.Test.YtjkkallcgplgmaaC6
set_option linter.unusedVariables false
set_option linter.unusedSimpArgs false
set_option maxRecDepth 8000
set_option maxHeartbeats 4000000
namespace Go.Proofs.Ytjkkallcgplgmaa
open Go Go.Sx
/-- The nearest of those that are in, among the first c; below nothing, where none is. -/
def mnI (l : List (Nat → Int)) (I : Nat → Bool) (j : Nat) : Nat → Int
  | 0 => -1
  | c + 1 => if I c = true ∧ (mnI l I j c < 0 ∨ jmp l c j < mnI l I j c) then jmp l c j else mnI l I j c
theorem mnI_range (l : List (Nat → Int)) (I : Nat → Bool) (j : Nat) : ∀ c, -1 ≤ mnI l I j c ∧ mnI l I j c ≤ 144
  | 0 => by simp [mnI]
  | c + 1 => by
    have ih := mnI_range l I j c
    have := jmp_le l c j
    unfold mnI
    split <;> omega
/-- One more is in. -/
def addI (I : Nat → Bool) (m i : Nat) : Bool := I i || decide (i = m)
theorem mnI_add {l : List (Nat → Int)} {I : Nat → Bool} {j m : Nat} (hm : I m = false) : ∀ c, mnI l (addI I m) j c = if m < c then (if mnI l I j c < 0 then jmp l m j else min (mnI l I j c) (jmp l m j)) else mnI l I j c
  | 0 => by simp [mnI]
  | c + 1 => by
    have ih := mnI_add (l := l) (j := j) hm c
    have r := mnI_range l I j c
    have hj := jmp_le l m j
    have hc := jmp_le l c j
    rw [mnI, ih, mnI]
    by_cases h1 : m < c
    · have e1 : addI I m c = I c := by unfold addI; simp; omega
      rw [if_pos h1, if_pos (show m < c + 1 by omega), e1]
      cases hI : I c
      · simp
      · simp only [true_and]
        generalize mnI l I j c = x at r ⊢
        generalize jmp l c j = C at hc ⊢
        generalize jmp l m j = J at hj ⊢
        by_cases h2 : x < 0
        · have d1 : (if x < 0 ∨ C < x then C else x) = C := if_pos (.inl h2)
          rw [if_pos h2, d1, if_neg (show ¬ C < 0 by omega)]
          split <;> omega
        · have d0 : (if x < 0 then J else min x J) = min x J := if_neg h2
          rw [d0]
          by_cases h3 : C < x
          · have d1 : (if x < 0 ∨ C < x then C else x) = C := if_pos (.inr h3)
            rw [d1, if_neg (show ¬ C < 0 by omega)]
            split <;> omega
          · have d1 : (if x < 0 ∨ C < x then C else x) = x := if_neg (by omega)
            rw [d1, if_neg h2]
            split <;> omega
    · rw [if_neg h1]
      by_cases h2 : m = c
      · subst h2
        have e1 : addI I m m = true := by unfold addI; simp
        rw [e1, hm, if_pos (show m < m + 1 by omega)]
        simp only [true_and, Bool.false_eq_true, false_and, if_false]
        by_cases h3 : mnI l I j m < 0
        · rw [if_pos (.inl h3), if_pos h3]
        · rw [if_neg h3]
          split <;> omega
      · have e1 : addI I m c = I c := by unfold addI; simp; omega
        rw [e1, if_neg (show ¬ m < c + 1 by omega)]
/-- The first of the least. -/
def fmin (near : Nat → Int) : Nat → List Nat → Nat
  | m, [] => m
  | m, i :: r => fmin near (if near i < near m then i else m) r
theorem fmin_mem (near : Nat → Int) : ∀ (r : List Nat) (m : Nat), fmin near m r = m ∨ fmin near m r ∈ r
  | [], m => .inl rfl
  | i :: r, m => by
    unfold fmin
    have ih := fmin_mem near r (if near i < near m then i else m)
    rcases ih with e | e
    · rw [e]; split
      · exact .inr (List.mem_cons_self ..)
      · exact .inl rfl
    · exact .inr (List.mem_cons_of_mem _ e)
theorem fmin_ext {near near' : Nat → Int} : ∀ (r : List Nat) (m : Nat), (∀ i, i = m ∨ i ∈ r → near i = near' i) → fmin near m r = fmin near' m r
  | [], m, _ => rfl
  | i :: r, m, h => by
    unfold fmin
    rw [h i (.inr (List.mem_cons_self ..)), h m (.inl rfl)]
    refine fmin_ext r _ fun k hk => ?_
    rcases hk with e | e
    · split at e
      · exact h k (.inr (by rw [e]; exact List.mem_cons_self ..))
      · exact h k (.inl e)
    · exact h k (.inr (List.mem_cons_of_mem _ e))
/-- What the tree comes to. -/
def tbN (l : List (Nat → Int)) : Nat → List Nat → (Nat → Int) → Int
  | 0, _, _ => 0
  | _ + 1, [], _ => 0
  | n + 1, a :: r, near => near (fmin near a r) + tbN l n ((a :: r).filter fun i => decide (i ≠ fmin near a r)) (fun i => min (near i) (jmp l (fmin near a r) i))
end Go.Proofs.Ytjkkallcgplgmaa

