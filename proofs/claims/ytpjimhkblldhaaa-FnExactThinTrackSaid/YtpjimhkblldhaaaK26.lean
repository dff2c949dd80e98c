/- Contracts of functions of the translated program, by the walk. -/
import Derived.Test.YtpjimhkblldhaaaK9
import Derived.Test.YtpjimhkblldhaaaK6
import Derived.Test.YtpjimhkblldhaaaLD
set_option linter.unusedVariables false
set_option linter.unusedSimpArgs false
set_option maxRecDepth 8000
set_option maxHeartbeats 4000000
namespace Go.Proofs.Ytpjimhkblldhaaa
open Go Go.Sx
/-- Two tracks have the same place at a tick. -/
def sameA (l m : List (Nat → Int)) (t : Int) : Bool := decide (placeR l 0 t 1 = placeR m 0 t 1) && decide (placeR l 0 t 2 = placeR m 0 t 2)
theorem sameA_iff {l m : List (Nat → Int)} {t : Int} : sameA l m t = true ↔ placeR l 0 t 1 = placeR m 0 t 1 ∧ placeR l 0 t 2 = placeR m 0 t 2 := by unfold sameA; simp
def swB (l m : List (Nat → Int)) : Bool := (List.range 201).all fun n => sameA l m (n : Int)
def goB (l m : List (Nat → Int)) : Bool := (List.range (tkN l + 1)).all fun n => sameA l m (kAt l 0 0 + (n : Int))
theorem swB_iff {l m : List (Nat → Int)} : swB l m = true ↔ ∀ n : Nat, n < 201 → sameA l m (n : Int) = true := by unfold swB; simp
theorem goB_iff {l m : List (Nat → Int)} : goB l m = true ↔ ∀ n : Nat, n < tkN l + 1 → sameA l m (kAt l 0 0 + (n : Int)) = true := by unfold goB; simp
theorem swB_comm (l m : List (Nat → Int)) : swB l m = swB m l := by
  unfold swB; congr 1; funext n; unfold sameA; simp only [eq_comm]
theorem kn_zero {l : List (Nat → Int)} (hv : tkOk l = true) {t : Int} (h : t < kAt l 0 0) : kn l t = 0 := by
  have hlen := tkOk_len hv
  rw [kAt_at (by omega)] at h
  exact kn_at (by omega) (fun j _ hj => absurd hj (by omega)) fun _ => h
theorem kn_full {l : List (Nat → Int)} (hv : tkOk l = true) {t : Int} (h : kAt l (l.length - 1) 0 ≤ t) : kn l t = l.length := by
  have hlen := tkOk_len hv
  rw [kAt_at (by omega)] at h
  refine kn_at (Nat.le_refl _) (fun j hj _ => ?_) fun h => absurd h (by omega)
  by_cases e : j = l.length - 1
  · subst e; exact h
  · have := tkOk_lt hv (show j < l.length - 1 by omega) (by omega); omega
theorem place_low {l : List (Nat → Int)} (hv : tkOk l = true) {t : Int} (h : t < kAt l 0 0) (c : Nat) : placeR l 0 t c = kAt l 0 c := placeR_lo (kn_zero hv h)
theorem place_high {l : List (Nat → Int)} (hv : tkOk l = true) {t : Int} (h : kAt l (l.length - 1) 0 ≤ t) (c : Nat) : placeR l 0 t c = kAt l (l.length - 1) c := placeR_hi (kn_full hv h)
/-- Two tracks with the same ends go the same way at all ticks, if they do between the ends. -/
theorem sw_go {l m : List (Nat → Int)} (hl : tkOk l = true) (hm : tkOk m = true) (h0 : kAt m 0 = kAt l 0) (h1 : kAt m (m.length - 1) = kAt l (l.length - 1)) : swB l m = goB l m := by
  have hN := tkN_eq hl
  have hlen := tkOk_len hl
  have q0 := okK_iff.1 (tkOk_at hl (show 0 < l.length by omega)).1
  rw [← kAt_at (show 0 < l.length by omega)] at q0
  have q1 := okK_iff.1 (tkOk_at hl (show l.length - 1 < l.length by omega)).1
  rw [← kAt_at (show l.length - 1 < l.length by omega)] at q1
  rw [Bool.eq_iff_iff, swB_iff, goB_iff]
  constructor
  · intro h n hn
    have := h (kAt l 0 0 + n).toNat (by omega)
    rwa [show (((kAt l 0 0 + n).toNat : Nat) : Int) = kAt l 0 0 + n by omega] at this
  · intro h n hn
    rcases Int.lt_or_le (n : Int) (kAt l 0 0) with hlo | hlo
    · rw [sameA_iff, place_low hl hlo, place_low hl hlo, place_low hm (by rw [h0]; exact hlo), place_low hm (by rw [h0]; exact hlo), h0]
      exact ⟨rfl, rfl⟩
    rcases Int.lt_or_le (n : Int) (kAt l (l.length - 1) 0) with hhi | hhi
    · have := h (n - kAt l 0 0).toNat (by omega)
      rwa [show kAt l 0 0 + (((n - kAt l 0 0).toNat : Nat) : Int) = n by omega] at this
    · rw [sameA_iff, place_high hl hhi, place_high hl hhi, place_high hm (by rw [h1]; exact hhi), place_high hm (by rw [h1]; exact hhi), h1]
      exact ⟨rfl, rfl⟩
theorem erase_get {l : List (Nat → Int)} {i j : Nat} : kAt (l.eraseIdx i) j = if j < i then kAt l j else kAt l (j + 1) := by
  unfold kAt; rw [List.getElem?_eraseIdx]; split <;> rfl
theorem tkOk_erase {l : List (Nat → Int)} (hv : tkOk l = true) {i : Nat} (h1 : 1 ≤ i) (h2 : i + 1 < l.length) : tkOk (l.eraseIdx i) = true := by
  have hlen := tkOk_len hv
  have hel : (l.eraseIdx i).length = l.length - 1 := erase_len (by omega)
  unfold tkOk
  rw [Bool.and_eq_true, allN_iff, hel, inB_iff]
  refine ⟨fun j hj => ?_, by omega, by omega⟩
  unfold tkAt
  rw [Bool.and_eq_true, Bool.or_eq_true, decide_eq_true_eq, decide_eq_true_eq]
  rw [erase_get, erase_get]
  have hlt : ∀ a b : Nat, a < b → b < l.length → kAt l a 0 < kAt l b 0 := fun a b hab hb => by rw [kAt_at (by omega), kAt_at hb]; exact tkOk_lt hv hab hb
  have hok : ∀ a : Nat, a < l.length → okK (kAt l a) = true := fun a ha => by rw [kAt_at ha]; exact (tkOk_at hv ha).1
  constructor
  · split
    · exact hok _ (by omega)
    · exact hok _ (by omega)
  · by_cases e : j = 0
    · exact .inl e
    · right
      split <;> split <;> exact hlt _ _ (by omega) (by omega)
theorem erase_ends {l : List (Nat → Int)} {i : Nat} (h1 : 1 ≤ i) (h2 : i + 1 < l.length) : kAt (l.eraseIdx i) 0 = kAt l 0 ∧ kAt (l.eraseIdx i) ((l.eraseIdx i).length - 1) = kAt l (l.length - 1) := by
  have hel : (l.eraseIdx i).length = l.length - 1 := erase_len (by omega)
  rw [hel, erase_get, erase_get, if_pos (by omega), if_neg (by omega), show l.length - 1 - 1 + 1 = l.length - 1 by omega]
  exact ⟨rfl, rfl⟩
def thinN : Nat → List (Nat → Int) → Nat → List (Nat → Int)
  | 0, l, _ => l
  | f + 1, l, i => if i + 1 < l.length then (if goB l (l.eraseIdx i) = true then thinN f (l.eraseIdx i) i else thinN f l (i + 1)) else l
/-- A track without the keys that its way does not need, from key i on. -/
def thinF (l : List (Nat → Int)) (i : Nat) : List (Nat → Int) := thinN (l.length - i) l i
theorem thinF_end {l : List (Nat → Int)} {i : Nat} (h : ¬ i + 1 < l.length) : thinF l i = l := by
  unfold thinF
  cases l.length - i with
  | zero => rfl
  | succ n => rw [thinN, if_neg h]
theorem thinF_drop {l : List (Nat → Int)} {i : Nat} (h : i + 1 < l.length) (hg : goB l (l.eraseIdx i) = true) : thinF l i = thinF (l.eraseIdx i) i := by
  unfold thinF
  have hel : (l.eraseIdx i).length = l.length - 1 := erase_len (by omega)
  rw [show l.length - i = (l.length - i - 1) + 1 by omega, thinN, if_pos h, if_pos hg, hel]
  congr 1; omega
theorem thinF_keep {l : List (Nat → Int)} {i : Nat} (h : i + 1 < l.length) (hg : goB l (l.eraseIdx i) = false) : thinF l i = thinF l (i + 1) := by
  unfold thinF
  rw [show l.length - i = (l.length - i - 1) + 1 by omega, thinN, if_pos h, if_neg (by rw [hg]; decide)]
  congr 1
def rzF (a b : Nat) : List (Nat → Int) := if a = b then [] else [fun _ => 0]
theorem thinF_len {l : List (Nat → Int)} {i : Nat} : ∀ f, (thinN f l i).length ≤ l.length := by
  intro f
  induction f generalizing l i with
  | zero => exact Nat.le_refl _
  | succ f ih =>
    rw [thinN]
    split
    · split
      · exact Nat.le_trans ih (by rw [List.length_eraseIdx]; split <;> omega)
      · exact ih
    · exact Nat.le_refl _
end Go.Proofs.Ytpjimhkblldhaaa

