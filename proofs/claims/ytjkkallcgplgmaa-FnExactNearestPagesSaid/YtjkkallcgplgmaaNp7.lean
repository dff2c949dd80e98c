/- Contracts of functions of the translated program, by the walk. -/
import Derived.Test.YtjkkallcgplgmaaNp6
import Derived.Test.YtjkkallcgplgmaaBo2
import Derived.Test.YtjkkallcgplgmaaD5
set_option linter.unusedVariables false
set_option linter.unusedSimpArgs false
set_option maxRecDepth 8000
set_option maxHeartbeats 4000000
namespace Go.Proofs.Ytjkkallcgplgmaa
open Go Go.Sx
/-- The pages without one, in their order. -/
def f0P (p x : Nat) : Int := if x < p then (x : Int) else (x : Int) + 1
/-- All pages but one, by their keys. -/
structure EnumP (k : Int → Int) (n p : Nat) (g : Nat → Int) : Prop where
  val : ∀ x, x + 1 < n → (0 ≤ g x ∧ g x < n) ∧ g x ≠ p
  all : ∀ y : Int, 0 ≤ y → y < n → y ≠ p → ∃ x, x + 1 < n ∧ g x = y
  srt : Srt k g 0 (n - 1)
theorem Bef.irr {k : Int → Int} {x y : Int} (h : Bef k x y) (h2 : Bef k y x) : False := by unfold Bef at *; omega
theorem EnumP.inj {k : Int → Int} {n p : Nat} {g : Nat → Int} (h : EnumP k n p g) {x y : Nat} (hx : x + 1 < n) (hy : y + 1 < n) (e : g x = g y) : x = y := by
  rcases Nat.lt_trichotomy x y with h1 | h1 | h1
  · have := h.srt x y (by omega) h1 (by omega); rw [e] at this; exact (this.irr this).elim
  · exact h1
  · have := h.srt y x (by omega) h1 (by omega); rw [e] at this; exact (this.irr this).elim
theorem EnumP.uniq {k : Int → Int} {n p : Nat} {g g' : Nat → Int} (h : EnumP k n p g) (h' : EnumP k n p g') : ∀ x, x + 1 < n → g x = g' x := by
  intro x
  induction x using Nat.strongRecOn with
  | ind x ih =>
    intro hx
    obtain ⟨y, hy, ey⟩ := h'.all (g x) (h.val x hx).1.1 (h.val x hx).1.2 (h.val x hx).2
    obtain ⟨z, hz, ez⟩ := h.all (g' x) (h'.val x hx).1.1 (h'.val x hx).1.2 (h'.val x hx).2
    have yx : ¬ y < x := fun hlt => by
      have e := ih y hlt hy
      rw [ey] at e
      exact absurd (h.inj hy hx e) (by omega)
    have zx : ¬ z < x := fun hlt => by
      have e := ih z hlt hz
      rw [ez] at e
      exact absurd (h'.inj hz hx e.symm) (by omega)
    by_cases e1 : y = x
    · rw [← ey, e1]
    · by_cases e2 : z = x
      · rw [← ez, e2]
      · have b1 := h'.srt x y (by omega) (by omega) (by omega)
        have b2 := h.srt x z (by omega) (by omega) (by omega)
        rw [ey] at b1
        rw [ez] at b2
        exact (b1.irr b2).elim
theorem f0P_val {n p x : Nat} (hx : x + 1 < n) : (0 ≤ f0P p x ∧ f0P p x < n) ∧ f0P p x ≠ p := by unfold f0P; split <;> omega
theorem f0P_all {n p : Nat} {y : Int} (h0 : 0 ≤ y) (h1 : y < n) (h2 : y ≠ p) (hp : p < n) : ∃ x, x + 1 < n ∧ f0P p x = y := by
  by_cases h : y < p
  · exact ⟨y.toNat, by omega, by unfold f0P; rw [if_pos (by omega)]; omega⟩
  · exact ⟨(y - 1).toNat, by omega, by unfold f0P; rw [if_neg (by omega)]; omega⟩
theorem f0P_inc {p x y : Nat} (h : x < y) : f0P p x < f0P p y := by unfold f0P; split <;> split <;> omega
theorem enum_of {k : Int → Int} {n p : Nat} {g : Nat → Int} (hp : p < n) (hm : Mix (f0P p) g 0 (n - 1)) (hs : Srt k g 0 (n - 1)) : EnumP k n p g := by
  refine ⟨fun x hx => ?_, fun y h0 h1 h2 => ?_, hs⟩
  · obtain ⟨z, hz, e⟩ := hm.to x (by omega) (by omega)
    rw [e]; exact f0P_val (by omega)
  · obtain ⟨x, hx, e⟩ := f0P_all h0 h1 h2 hp
    obtain ⟨z, hz, e2⟩ := hm.fro x (by omega) (by omega)
    exact ⟨z, by omega, by rw [← e2, e]⟩
theorem enum_ex (k : Int → Int) {n p : Nat} (hp : p < n) : ∃ g, EnumP k n p g := by
  obtain ⟨le, hle⟩ : ∃ le : Int → Int → Bool, ∀ a b, le a b = true ↔ (k a < k b ∨ (k a = k b ∧ a ≤ b)) := ⟨fun a b => decide (k a < k b ∨ (k a = k b ∧ a ≤ b)), fun a b => by simp⟩
  obtain ⟨S, hS⟩ : ∃ S, S = ((List.range (n - 1)).map (f0P p)).mergeSort le := ⟨_, rfl⟩
  have hperm : S.Perm ((List.range (n - 1)).map (f0P p)) := hS ▸ List.mergeSort_perm _ _
  have hlen : S.length = n - 1 := by rw [hperm.length_eq]; simp
  have hpw : S.Pairwise fun a b => le a b = true := by
    rw [hS]
    exact List.pairwise_mergeSort (fun a b c h1 h2 => by rw [hle] at *; omega) (fun a b => by rw [Bool.or_eq_true, hle, hle]; omega) _
  have hnd : S.Nodup := by
    refine hperm.nodup_iff.2 ?_
    rw [List.nodup_iff_pairwise_ne, List.pairwise_map]
    refine List.Pairwise.imp ?_ (List.nodup_iff_pairwise_ne.1 (List.nodup_range (n := n - 1)))
    intro a b hab e
    rcases Nat.lt_or_gt_of_ne hab with h | h
    · have := f0P_inc (p := p) h; omega
    · have := f0P_inc (p := p) h; omega
  have hat : ∀ x, x + 1 < n → ∃ h : x < S.length, (S[x]?.getD 0) = S[x] := fun x hx => ⟨by omega, by rw [List.getElem?_eq_getElem (by omega)]; rfl⟩
  refine ⟨fun x => S[x]?.getD 0, fun x hx => ?_, fun y h0 h1 h2 => ?_, fun x y _ hxy hy => ?_⟩
  · obtain ⟨h, e⟩ := hat x hx
    simp only [e]
    have hm := hperm.mem_iff.1 (List.getElem_mem h)
    obtain ⟨z, hz, e2⟩ := List.mem_map.1 hm
    rw [← e2]
    exact f0P_val (by have := List.mem_range.1 hz; omega)
  · obtain ⟨x, hx, e⟩ := f0P_all h0 h1 h2 hp
    have hm : y ∈ S := hperm.mem_iff.2 (List.mem_map.2 ⟨x, List.mem_range.2 (by omega), e⟩)
    obtain ⟨z, hz, e2⟩ := List.mem_iff_getElem.1 hm
    exact ⟨z, by omega, by simp only [(hat z (by omega)).2, e2]⟩
  · obtain ⟨hx', ex⟩ := hat x (by omega)
    obtain ⟨hy', ey⟩ := hat y (by omega)
    simp only [ex, ey]
    have h1 := List.pairwise_iff_getElem.1 hpw x y hx' hy' hxy
    have h2 : S[x] ≠ S[y] := fun e => absurd ((List.getElem_inj hnd).1 e) (by omega)
    rw [hle] at h1
    unfold Bef; omega
/-- The pages that are nearest to one. -/
def nearL (g : Nat → Int) (c : Nat) : List Int := (List.range c).map g
theorem nearL_len (g : Nat → Int) (c : Nat) : (nearL g c).length = c := by simp [nearL]
theorem nearL_succ (g : Nat → Int) (c : Nat) : nearL g (c + 1) = nearL g c ++ [g c] := by simp [nearL, List.range_succ]
theorem nearL_row (g : Nat → Int) (c : Nat) : (nearL g c).flatMap i64C = rowL .i64 c g := by
  unfold nearL rowL i64C
  rw [List.flatMap_map]
  induction c with
  | zero => rfl
  | succ c ih => simp [List.range_succ, ih]
end Go.Proofs.Ytjkkallcgplgmaa

