/- Contracts of functions of the translated program, by the walk. -/
import Derived.Test.YtheeehjgmifclaaCt3
set_option linter.unusedVariables false
set_option linter.unusedSimpArgs false
set_option maxRecDepth 8000
set_option maxHeartbeats 4000000
namespace Go.Proofs.Ytheeehjgmifclaa
open Go Go.Sx
def okCh (c : Int) : Prop := c = 35 ∨ c = 111 ∨ c = 46
instance (c : Int) : Decidable (okCh c) := by unfold okCh; infer_instance
/-- So many lines of twelve letters. -/
def goodT : Nat → List Int → Prop
  | 0, t => t = []
  | n + 1, t => ∃ l r, t = l ++ 10 :: r ∧ l.length = 12 ∧ (∀ c ∈ l, okCh c) ∧ goodT n r
theorem good_idx : ∀ (n : Nat) (t : List Int), goodT n t ↔ (t.length = 13 * n ∧ ∀ k, k < 13 * n → if k % 13 = 12 then t[k]? = some 10 else ∃ c, t[k]? = some c ∧ okCh c)
  | 0, t => by
    constructor
    · intro h
      have : t = [] := h
      subst this
      exact ⟨rfl, fun k hk => by omega⟩
    · rintro ⟨h, _⟩
      exact List.length_eq_zero_iff.1 (by omega)
  | n + 1, t => by
    constructor
    · rintro ⟨l, r, rfl, hl, hc, hg⟩
      obtain ⟨a, b⟩ := (good_idx n r).1 hg
      refine ⟨by simp; omega, fun k hk => ?_⟩
      rcases Nat.lt_trichotomy k 12 with h | h | h
      · rw [if_neg (by omega), List.getElem?_append_left (by omega)]
        exact ⟨l[k], List.getElem?_eq_getElem (by omega), hc _ (List.getElem_mem _)⟩
      · subst h
        rw [if_pos (by omega), List.getElem?_append_right (by omega), hl]; rfl
      · have := b (k - 13) (by omega)
        rw [List.getElem?_append_right (by omega), hl, show k - 12 = (k - 13) + 1 by omega, List.getElem?_cons_succ]
        rwa [show (k - 13) % 13 = k % 13 by omega] at this
    · rintro ⟨h1, h2⟩
      refine ⟨t.take 12, t.drop 13, ?_, by rw [List.length_take]; omega, fun c hc => ?_, (good_idx n _).2 ⟨by rw [List.length_drop]; omega, fun k hk => ?_⟩⟩
      · have h12 := h2 12 (by omega)
        rw [if_pos (by omega)] at h12
        obtain ⟨hlt, he⟩ := List.getElem?_eq_some_iff.1 h12
        rw [← he, ← List.drop_eq_getElem_cons hlt, List.take_append_drop]
      · obtain ⟨k, hk, rfl⟩ := List.mem_iff_getElem.1 hc
        rw [List.length_take] at hk
        have := h2 k (by omega)
        rw [if_neg (by omega)] at this
        obtain ⟨c, hc1, hc2⟩ := this
        rw [List.getElem_take]
        rw [List.getElem?_eq_getElem (by omega)] at hc1
        rw [Option.some.inj hc1]; exact hc2
      · have := h2 (13 + k) (by omega)
        rw [List.getElem?_drop]
        rwa [show (13 + k) % 13 = k % 13 by omega] at this
open Classical in
noncomputable instance (n : Nat) (t : List Int) : Decidable (goodT n t) := Classical.propDecidable _
/-- The frame with the dots of which something is true. -/
def whP (p : Nat → Bool) : Nat → (Nat → Int)
  | 0 => zeroF
  | n + 1 => if p n = true then putF (whP p n) ((n % 12 : Nat) : Int) ((n / 12 : Nat) : Int) else whP p n
theorem whP_16 (p : Nat → Bool) : ∀ n, R16 (whP p n)
  | 0 => zeroF_r16
  | n + 1 => by
    unfold whP
    split
    · exact putF_fr (whP_16 p n) _ _
    · exact whP_16 p n
theorem dot_whP (p : Nat → Bool) {x y : Nat} (hy : y < 12) : ∀ n, n ≤ 144 → dot (whP p n) x y = (decide (x < 12) && (decide (y * 12 + x < n) && p (y * 12 + x)))
  | 0, _ => by simp [whP, dot_zero]
  | n + 1, hn => by
    have ih := dot_whP p (x := x) hy n (by omega)
    unfold whP
    have hpl : placeB ((n % 12 : Nat) : Int) ((n / 12 : Nat) : Int) = true := by unfold placeB; simp; omega
    by_cases hx : x < 12
    · by_cases he : y * 12 + x = n
      · have e1 : x = n % 12 := by omega
        have e2 : y = n / 12 := by omega
        cases hp : p n
        · rw [if_neg (by simp), ih, he, hp]; simp
        · rw [if_pos rfl, dot_putF, hpl, he, hp]
          have d1 : decide ((x : Int) = ((n % 12 : Nat) : Int)) = true := by simp; omega
          have d2 : decide ((y : Int) = ((n / 12 : Nat) : Int)) = true := by simp; omega
          rw [d1, d2]; simp [hx]
      · have hd : dot (if p n = true then putF (whP p n) ((n % 12 : Nat) : Int) ((n / 12 : Nat) : Int) else whP p n) x y = dot (whP p n) x y := by
          split
          · rw [dot_putF]
            have : (decide ((x : Int) = ((n % 12 : Nat) : Int)) && decide ((y : Int) = ((n / 12 : Nat) : Int))) = false := by
              rw [Bool.and_eq_false_iff, decide_eq_false_iff_not, decide_eq_false_iff_not]; omega
            rw [this]; simp
          · rfl
        rw [hd, ih]
        congr 2
        rw [decide_eq_decide]; omega
    · have hd : dot (if p n = true then putF (whP p n) ((n % 12 : Nat) : Int) ((n / 12 : Nat) : Int) else whP p n) x y = dot (whP p n) x y := by
        split
        · rw [dot_putF]
          have : (decide ((x : Int) = ((n % 12 : Nat) : Int)) && decide ((y : Int) = ((n / 12 : Nat) : Int))) = false := by
            rw [Bool.and_eq_false_iff, decide_eq_false_iff_not, decide_eq_false_iff_not]; omega
          rw [this]; simp
        · rfl
      rw [hd, ih]; simp [hx]
/-- The letter at a dot's place. -/
def chA (t : List Int) (k : Nat) : Int := t[13 * (k / 12) + k % 12]?.getD 0
def isC (t : List Int) (c : Int) (k : Nat) : Bool := decide (chA t k = c)
def isK (t : List Int) (k : Nat) : Bool := decide (chA t k = 35) || decide (chA t k = 111)
def rcF (t : List Int) : Nat → Int := whP (isC t 35) 144
def rcG (t : List Int) : Nat → Int := whP (isK t) 144
/-- The text of what was read is the text, if it is one. -/
theorem cx_good {t : List Int} : (cxL (rcF t) (rcG t) 156 = t) ↔ goodT 12 t := by
  have hcx : ∀ k, k < 156 → cxB (rcF t) (rcG t) k = if k % 13 = 12 then 10 else if t[k]?.getD 0 = 35 then 35 else if t[k]?.getD 0 = 111 then 111 else 46 := fun k hk => by
    unfold cxB rcF rcG
    by_cases h : k % 13 = 12
    · rw [if_pos h, if_pos h]
    · rw [if_neg h, if_neg h, dot_whP _ (by omega) 144 (Nat.le_refl _), dot_whP _ (by omega) 144 (Nat.le_refl _)]
      have e1 : decide (k % 13 < 12) = true := by simp; omega
      have e2 : decide (k / 13 * 12 + k % 13 < 144) = true := by simp; omega
      have e3 : chA t (k / 13 * 12 + k % 13) = t[k]?.getD 0 := by
        unfold chA
        rw [show 13 * ((k / 13 * 12 + k % 13) / 12) + (k / 13 * 12 + k % 13) % 12 = k by omega]
      unfold isC isK
      rw [e1, e2, e3]
      simp only [Bool.true_and, decide_eq_true_eq, Bool.or_eq_true]
      by_cases h35 : t[k]?.getD 0 = 35
      · rw [if_pos h35, if_pos h35]
      · rw [if_neg h35, if_neg h35]
        by_cases h111 : t[k]?.getD 0 = 111
        · rw [if_pos (.inr h111), if_pos h111]
        · rw [if_neg (by rintro (h | h) <;> contradiction), if_neg h111]
  rw [good_idx]
  constructor
  · intro h
    have hl : t.length = 156 := by rw [← h, cxL_len]
    refine ⟨hl, fun k hk => ?_⟩
    have e : t[k]? = some (cxB (rcF t) (rcG t) k) := by
      conv => lhs; rw [← h]
      unfold cxL
      rw [List.getElem?_map, List.getElem?_range (by omega)]; rfl
    rw [hcx k (by omega)] at e
    by_cases h12 : k % 13 = 12
    · rw [if_pos h12] at e ⊢; exact e
    · rw [if_neg h12] at e ⊢
      refine ⟨_, e, ?_⟩
      unfold okCh
      split
      · exact .inl rfl
      · split
        · exact .inr (.inl rfl)
        · exact .inr (.inr rfl)
  · rintro ⟨hl, h⟩
    apply List.ext_getElem?
    intro k
    rcases Nat.lt_or_ge k 156 with hk | hk
    · unfold cxL
      rw [List.getElem?_map, List.getElem?_range hk, Option.map_some, hcx k hk]
      have := h k (by omega)
      by_cases h12 : k % 13 = 12
      · rw [if_pos h12] at this ⊢; exact this.symm
      · rw [if_neg h12] at this ⊢
        obtain ⟨c, hc, ho⟩ := this
        rw [hc]
        simp only [Option.getD_some]
        unfold okCh at ho
        rcases ho with rfl | rfl | rfl <;> simp
    · rw [List.getElem?_eq_none (by rw [cxL_len]; exact hk), List.getElem?_eq_none (by omega)]
end Go.Proofs.Ytheeehjgmifclaa

