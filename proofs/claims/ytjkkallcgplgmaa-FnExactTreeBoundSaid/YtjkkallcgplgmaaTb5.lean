/- Contracts of functions of the translated program, by the walk. -/
import Derived.Test.YtjkkallcgplgmaaTb4
set_option linter.unusedVariables false
set_option linter.unusedSimpArgs false
set_option maxRecDepth 8000
set_option maxHeartbeats 4000000
namespace Go.Proofs.Ytjkkallcgplgmaa
open Go Go.Sx
/-- What the reference adds, r rounds on. -/
def refN (l : List (Nat → Int)) (n : Nat) : Nat → (Nat → Bool) → Int
  | 0, _ => 0
  | r + 1, I => max 0 (bsS (fun j => mnI l I j n) I n).2 + refN l n r (addI I (bsS (fun j => mnI l I j n) I n).1.toNat)
theorem tbN_ext {l : List (Nat → Int)} : ∀ (n : Nat) (L : List Nat) {near near' : Nat → Int}, (∀ i ∈ L, near i = near' i) → tbN l n L near = tbN l n L near'
  | 0, L, _, _, _ => by cases L <;> rfl
  | n + 1, [], _, _, _ => rfl
  | n + 1, a :: r, near, near', h => by
    have hm : fmin near a r = fmin near' a r := fmin_ext r a fun i hi => by
      rcases hi with e | e
      · rw [e]; exact h a (List.mem_cons_self ..)
      · exact h i (List.mem_cons_of_mem _ e)
    have hmem : fmin near' a r ∈ a :: r := by
      rcases fmin_mem near' r a with e | e
      · rw [e]; exact List.mem_cons_self ..
      · exact List.mem_cons_of_mem _ e
    unfold tbN
    rw [hm, h _ hmem]
    congr 1
    exact tbN_ext n _ fun i hi => by rw [h i ((List.mem_filter.1 hi).1)]
theorem outL_mem {I : Nat → Bool} {n j : Nat} : j ∈ outL I n ↔ j < n ∧ I j = false := by simp [outL]
theorem outL_nodup (I : Nat → Bool) (n : Nat) : (outL I n).Nodup := List.nodup_range.filter _
theorem outL_add {I : Nat → Bool} {n m : Nat} : outL (addI I m) n = (outL I n).filter fun i => decide (i ≠ m) := by
  unfold outL
  rw [List.filter_filter]
  congr 1
  funext j
  unfold addI
  cases I j <;> simp
theorem filter_len {L : List Nat} {m : Nat} (h : m ∈ L) (hn : L.Nodup) : (L.filter fun i => decide (i ≠ m)).length = L.length - 1 := by
  have : (L.filter fun i => decide (i ≠ m)) = L.erase m := by
    rw [hn.erase_eq_filter]
    congr 1
    funext i
    by_cases e : i = m
    · simp [e]
    · simp [e, bne]
  rw [this, List.length_erase_of_mem h]
theorem refN_tb {l : List (Nat → Int)} {n : Nat} : ∀ (r : Nat) (I : Nat → Bool), (outL I n).length = r → (∀ j ∈ outL I n, 0 ≤ mnI l I j n) → refN l n r I = tbN l r (outL I n) fun j => mnI l I j n
  | 0, I, _, _ => by cases outL I n <;> rfl
  | r + 1, I, hl, h0 => by
    have hb := (bsS_out (fun j => mnI l I j n) I n).2
    have hnd := outL_nodup I n
    have hadd : ∀ m, outL (addI I m) n = (outL I n).filter fun i => decide (i ≠ m) := fun m => outL_add
    have hmm : ∀ j, j ∈ outL I n → j < n ∧ I j = false := fun j hj => outL_mem.1 hj
    cases ho : outL I n with
    | nil => rw [ho] at hl; cases hl
    | cons a R =>
      have hb1 := hb a R ho
      rw [ho] at hnd hl h0 hmm
      have hmem : fmin (fun j => mnI l I j n) a R ∈ a :: R := by
        rcases fmin_mem (fun j => mnI l I j n) R a with e | e
        · rw [e]; exact List.mem_cons_self ..
        · exact List.mem_cons_of_mem _ e
      unfold refN tbN
      rw [hb1]
      simp only [Int.toNat_natCast]
      generalize hgm : fmin (fun j => mnI l I j n) a R = m at hmem
      have hm := hmm m hmem
      have hadm := hadd m
      rw [ho] at hadm
      have hfl := filter_len hmem hnd
      have e1 : ∀ j, j ∈ a :: R → mnI l (addI I m) j n = min (mnI l I j n) (jmp l m j) := fun j hj => by
        rw [mnI_add hm.2, if_pos hm.1, if_neg (by have := h0 j hj; omega)]
      have ih := refN_tb r (addI I m) (by rw [hadm, hfl, hl]; rfl) (fun j hj => by
        rw [hadm] at hj
        have hj2 := (List.mem_filter.1 hj).1
        rw [e1 j hj2]
        have := h0 j hj2
        have := (jmp_le l m j).1
        omega)
      rw [ih, hadm]
      have := h0 m hmem
      rw [show max 0 (mnI l I m n) = mnI l I m n by omega]
      congr 1
      exact tbN_ext r _ fun i hi => e1 i ((List.mem_filter.1 hi).1)
def leftL (n : Nat) : List Nat := (List.range (n - 1)).map fun j => j + 1
theorem leftL_len (n : Nat) : (leftL n).length = n - 1 := by simp [leftL]
theorem mnI_none (l : List (Nat → Int)) (j : Nat) : ∀ c, mnI l (fun _ => false) j c = -1
  | 0 => rfl
  | c + 1 => by rw [mnI, if_neg (by simp)]; exact mnI_none l j c
theorem fmin_const (x : Int) : ∀ (r : List Nat) (m : Nat), fmin (fun _ => x) m r = m
  | [], _ => rfl
  | i :: r, m => by unfold fmin; rw [if_neg (Int.lt_irrefl _)]; exact fmin_const x r m
theorem outL_none (n : Nat) : outL (fun _ => false) n = List.range n := by simp [outL]
/-- The bound. -/
def tbV (l : List (Nat → Int)) : Int := tbN l (l.length - 1) (leftL l.length) fun j => jmp l 0 j
theorem refN_all (l : List (Nat → Int)) : refN l l.length l.length (fun _ => false) = tbV l := by
  unfold tbV
  generalize l.length = n
  cases n with
  | zero => rfl
  | succ n =>
    have hr : List.range (n + 1) = 0 :: (List.range n).map (fun j => j + 1) := by rw [List.range_succ_eq_map]
    have hb := (bsS_out (fun j => mnI l (fun _ => false) j (n + 1)) (fun _ => false) (n + 1)).2 0 ((List.range n).map (fun j => j + 1)) (by rw [outL_none]; exact hr)
    have hc : (fun j => mnI l (fun _ => false) j (n + 1)) = fun _ => -1 := funext fun j => mnI_none l j _
    rw [hc, fmin_const] at hb
    have hout : outL (addI (fun _ => false) 0) (n + 1) = leftL (n + 1) := by
      rw [outL_add, outL_none, hr]
      unfold leftL
      simp [List.filter_map]
      rw [List.filter_eq_self.2]
      · intro a _; rfl
    have hn : ∀ j, mnI l (addI (fun _ => false) 0) j (n + 1) = jmp l 0 j := fun j => by
      rw [mnI_add rfl, if_pos (by omega), mnI_none, if_pos (by decide)]
    unfold refN
    rw [hc, hb]
    simp only [Int.toNat_natCast, Nat.add_sub_cancel]
    rw [refN_tb n _ (by rw [hout, leftL_len]; rfl) (fun j _ => by rw [hn]; exact (jmp_le l 0 j).1), hout]
    have : (fun j => mnI l (addI (fun _ => false) 0) j (n + 1)) = fun j => jmp l 0 j := funext hn
    rw [this]
    rw [mnI_none, show max (0 : Int) (-1) = 0 by decide, Int.zero_add]
end Go.Proofs.Ytjkkallcgplgmaa

