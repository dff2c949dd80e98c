/- Contracts of functions of the translated program, by the walk. -/
import Derived.Test.YtjkkallcgplgmaaD5
import Derived.Test.YtjkkallcgplgmaaLD
set_option linter.unusedVariables false
set_option linter.unusedSimpArgs false
set_option maxRecDepth 8000
set_option maxHeartbeats 4000000
namespace Go.Proofs.Ytjkkallcgplgmaa
open Go Go.Sx
/-- What is known: nothing, or the best order so far and its jumps. -/
abbrev SS := Option (List Int × Int)
def cutS (s : Int) : SS → Bool
  | some (_, x) => decide (x ≤ s)
  | none => false
def leI : SS → Int
  | some (_, x) => x
  | none => -1
def beL : SS → List Int
  | some (b, _) => b
  | none => []
def moreJ (l : List (Nat → Int)) (o : List Int) (k : Nat) : Int := match o.getLast? with | some p => jmp l p.toNat k | none => 0
theorem moreJ_range (l : List (Nat → Int)) (o : List Int) (k : Nat) : 0 ≤ moreJ l o k ∧ moreJ l o k ≤ 144 := by
  unfold moreJ
  split
  · exact jmp_le _ _ _
  · omega
def srch (l : List (Nat → Int)) (n : Nat) : Nat → List Int → Int → SS → SS
  | 0, o, s, st => if cutS s st = true then st else some (o, s)
  | f + 1, o, s, st => if cutS s st = true then st else (List.range n).foldl (fun (st : SS) (k : Nat) => if hasI o (k : Int) = true then st else srch l n f (o ++ [(k : Int)]) (s + moreJ l o k) st) st
def srK (l : List (Nat → Int)) (n f : Nat) (o : List Int) (s : Int) (st : SS) : Nat → SS
  | 0 => st
  | c + 1 => if hasI o c = true then srK l n f o s st c else srch l n f (o ++ [(c : Int)]) (s + moreJ l o c) (srK l n f o s st c)
theorem srK_fold (l : List (Nat → Int)) (n f : Nat) (o : List Int) (s : Int) (st : SS) : ∀ c, (List.range c).foldl (fun (st : SS) (k : Nat) => if hasI o (k : Int) = true then st else srch l n f (o ++ [(k : Int)]) (s + moreJ l o k) st) st = srK l n f o s st c
  | 0 => rfl
  | c + 1 => by rw [List.range_succ, List.foldl_append, srK_fold l n f o s st c]; rfl
theorem srch_zero (l : List (Nat → Int)) (n : Nat) (o : List Int) (s : Int) (st : SS) : srch l n 0 o s st = if cutS s st = true then st else some (o, s) := rfl
theorem srch_succ (l : List (Nat → Int)) (n f : Nat) (o : List Int) (s : Int) (st : SS) : srch l n (f + 1) o s st = if cutS s st = true then st else srK l n f o s st n := by
  rw [← srK_fold]; rfl
/-- What is found is better. -/
def impS (n : Nat) (st st' : SS) : Prop := st' = st ∨ ∃ b x, st' = some (b, x) ∧ b.length = n ∧ 0 ≤ x ∧ x ≤ 1152 ∧ ∀ b0 y, st = some (b0, y) → x < y
theorem impS_trans {n : Nat} {a b c : SS} (h : impS n a b) (h2 : impS n b c) : impS n a c := by
  rcases h with rfl | ⟨b1, x1, rfl, l1, p1, q1, r1⟩
  · exact h2
  · rcases h2 with rfl | ⟨b2, x2, rfl, l2, p2, q2, r2⟩
    · exact .inr ⟨b1, x1, rfl, l1, p1, q1, r1⟩
    · refine .inr ⟨b2, x2, rfl, l2, p2, q2, fun b0 y e => ?_⟩
      have := r1 b0 y e
      have := r2 b1 x1 rfl
      omega
theorem impS_ne {n : Nat} {a b c : SS} (h : impS n a b) (h2 : impS n b c) (hne : b ≠ a) : c ≠ a := by
  rcases h with rfl | ⟨b1, x1, rfl, l1, p1, q1, r1⟩
  · exact absurd rfl hne
  · rcases h2 with rfl | ⟨b2, x2, rfl, l2, p2, q2, r2⟩
    · exact hne
    · intro e
      cases a with
      | none => cases e
      | some a =>
        obtain ⟨b0, y⟩ := a
        cases e
        have := r1 _ _ rfl
        have := r2 _ _ rfl
        omega
def okS (n : Nat) (st : SS) : Prop := ∀ b x, st = some (b, x) → b.length = n ∧ 0 ≤ x ∧ x ≤ 1152
theorem impS_ok {n : Nat} {a b : SS} (h : impS n a b) (ha : okS n a) : okS n b := by
  rcases h with rfl | ⟨b1, x1, rfl, l1, p1, q1, r1⟩
  · exact ha
  · intro b2 x2 e
    cases e
    exact ⟨l1, p1, q1⟩
theorem impS_some {n : Nat} {a b : SS} (h : impS n a b) (ha : a ≠ none) : b ≠ none := by
  rcases h with rfl | ⟨b1, x1, rfl, _⟩
  · exact ha
  · simp
theorem srch_imp {l : List (Nat → Int)} {n : Nat} (h8 : n ≤ 8) : ∀ (f : Nat) (o : List Int) (s : Int) (st : SS), o.length + f = n → 0 ≤ s → s ≤ 144 * o.length → impS n st (srch l n f o s st)
  | 0, o, s, st, ho, h0, h1 => by
    rw [srch_zero]
    split
    · exact .inl rfl
    · rename_i hc
      refine .inr ⟨o, s, rfl, by omega, h0, by omega, fun b0 y e => ?_⟩
      subst e
      unfold cutS at hc
      simp at hc; omega
  | f + 1, o, s, st, ho, h0, h1 => by
    rw [srch_succ]
    split
    · exact .inl rfl
    · have : ∀ c, impS n st (srK l n f o s st c) := by
        intro c
        induction c with
        | zero => exact .inl rfl
        | succ c ih =>
          unfold srK
          split
          · exact ih
          · have hm := moreJ_range l o c
            exact impS_trans ih (srch_imp h8 f _ _ _ (by simp; omega) (by omega) (by simp; omega))
      exact this n
theorem srK_imp {l : List (Nat → Int)} {n f : Nat} {o : List Int} {s : Int} {st : SS} (h8 : n ≤ 8) (ho : o.length + (f + 1) = n) (h0 : 0 ≤ s) (h1 : s ≤ 144 * o.length) : ∀ c, impS n st (srK l n f o s st c)
  | 0 => .inl rfl
  | c + 1 => by
    have ih := srK_imp (l := l) (st := st) h8 ho h0 h1 c
    unfold srK
    split
    · exact ih
    · have hm := moreJ_range l o c
      exact impS_trans ih (srch_imp h8 f _ _ _ (by simp; omega) (by omega) (by simp; omega))
theorem srch_some {l : List (Nat → Int)} {n : Nat} (h8 : n ≤ 8) : ∀ (f : Nat) (o : List Int) (s : Int) (st : SS), o.length + f = n → 0 ≤ s → s ≤ 144 * o.length → srch l n f o s st ≠ none
  | 0, o, s, st, _, _, _ => by
    rw [srch_zero]
    split
    · rename_i hc; intro e; subst e; cases hc
    · simp
  | f + 1, o, s, st, ho, h0, h1 => by
    rw [srch_succ]
    split
    · rename_i hc; intro e; subst e; cases hc
    · have hex : ∃ c, c < n ∧ hasI o c = false := by
        apply Classical.byContradiction
        intro hne
        have := pigeon n o fun k hk => by
          apply hasI_iff.1
          cases e : hasI o k
          · exact absurd ⟨k, hk, e⟩ hne
          · rfl
        omega
      obtain ⟨c, hc, hco⟩ := hex
      have hm := moreJ_range l o c
      have h2 : srK l n f o s st (c + 1) ≠ none := by
        unfold srK
        rw [hco, if_neg (by simp)]
        exact srch_some h8 f _ _ _ (by simp; omega) (by omega) (by simp; omega)
      have h3 : ∀ d, srK l n f o s st (c + 1 + d) ≠ none := by
        intro d
        induction d with
        | zero => exact h2
        | succ d ih =>
          rw [← Nat.add_assoc]
          unfold srK
          split
          · exact ih
          · have hm := moreJ_range l o (c + 1 + d)
            exact impS_some (srch_imp h8 f _ _ _ (by simp; omega) (by omega) (by simp; omega)) ih
      have := h3 (n - (c + 1))
      rwa [show c + 1 + (n - (c + 1)) = n by omega] at this
end Go.Proofs.Ytjkkallcgplgmaa

