/- Contracts of functions of the translated program, by the walk. -/
import Derived.Test.YtpginknbmmdmoaaC3
import Derived.Test.YtpginknbmmdmoaaC4
import Derived.Test.YtpginknbmmdmoaaDr4
import Derived.Test.YtpginknbmmdmoaaFm1
set_option linter.unusedVariables false
set_option linter.unusedSimpArgs false
set_option maxRecDepth 8000
set_option maxHeartbeats 4000000
namespace Go.Proofs.Ytpginknbmmdmoaa
open Go Go.Sx
open Go.RowKit
theorem filter_sub {L R : List Nat} (h : L.Sublist R) (hn : R.Nodup) : R.filter (fun k => decide (k ∈ L)) = L := by
  induction h with
  | slnil => rfl
  | @cons l r a h ih =>
    have ha : a ∉ l := fun hm => (List.nodup_cons.1 hn).1 (h.subset hm)
    rw [List.filter_cons, if_neg (by simpa using ha)]
    exact ih (List.nodup_cons.1 hn).2
  | @cons_cons l r a h ih =>
    have ha : a ∉ r := (List.nodup_cons.1 hn).1
    rw [List.filter_cons, if_pos (by simp)]
    congr 1
    rw [← ih (List.nodup_cons.1 hn).2]
    refine List.filter_congr fun k hk => ?_
    have : k ≠ a := fun e => ha (e ▸ hk)
    simp [this]
    exact fun hm => h.subset hm
theorem filter_two (p q : Nat → Bool) : ∀ R : List Nat, (R.filter p).length = (R.filter fun k => p k && q k).length + (R.filter fun k => p k && !q k).length
  | [] => rfl
  | a :: R => by
    have ih := filter_two p q R
    rw [List.filter_cons, List.filter_cons, List.filter_cons]
    cases p a <;> cases q a <;> simp <;> omega
theorem dot_flips_mem {x y : Nat} (hx : x < 12) : ∀ (l : List Nat) {f : Nat → Int}, l.Nodup → y * 12 + x ∈ l → dot (flips f l) x y = !dot f x y
  | [], _, _, h => by cases h
  | k :: l, f, hn, h => by
    show dot (flips (flipF f k) l) x y = _
    rcases List.mem_cons.1 h with e | h
    · have hno : ∀ j ∈ l, j ≠ y * 12 + x := fun j hj e2 => (List.nodup_cons.1 hn).1 (by rw [← e, ← e2]; exact hj)
      rw [dot_flips hx l hno, dot_flipF hx]
      simp [e]
    · rw [dot_flips_mem hx l (List.nodup_cons.1 hn).2 h, dot_flipF hx]
      have : k ≠ y * 12 + x := fun e => (List.nodup_cons.1 hn).1 (by rw [e]; exact h)
      simp [this]
theorem dotsF_nodup (f : Nat → Int) : (dotsF f).Nodup := List.nodup_range.filter _
theorem dot_morphF {f g : Nat → Int} (hf : R16 f) (hg : R16 g) {m x y : Nat} (hx : x < 12) (hy : y < 12) :
    dot (morphF f g m) x y = (dot f x y ^^ decide (y * 12 + x ∈ (dotsF (xorF f g)).take m)) := by
  unfold morphF
  by_cases h : y * 12 + x ∈ (dotsF (xorF f g)).take m
  · rw [dot_flips_mem hx _ ((List.take_sublist _ _).nodup (dotsF_nodup _)) h]; simp [h]
  · rw [dot_flips hx _ fun k hk e => h (e ▸ hk)]; simp [h]
theorem morphF_r16 {f g : Nat → Int} (hf : R16 f) (m : Nat) : R16 (morphF f g m) := flips_r16 _ hf
theorem mod_kd {k : Nat} : k / 12 * 12 + k % 12 = k := by omega
theorem jump_first {f g : Nat → Int} (hf : R16 f) (hg : R16 g) {m : Nat} (hm : m ≤ (dotsF (xorF f g)).length) : jumpF f (morphF f g m) = m := by
  have hsub : ((dotsF (xorF f g)).take m).Sublist (List.range 144) := (List.take_sublist _ _).trans List.filter_sublist
  have e : dotsF (xorF f (morphF f g m)) = (dotsF (xorF f g)).take m := by
    conv => rhs; rw [← filter_sub hsub List.nodup_range]
    unfold dotsF dotsTo
    refine List.filter_congr fun k hk => ?_
    have hk := List.mem_range.1 hk
    rw [dot_xorF hf (morphF_r16 hf m) (by omega), dot_morphF hf hg (by omega) (by omega), mod_kd]
    show _ = decide (k ∈ (dotsF (xorF f g)).take m)
    cases dot f (k % 12) (k / 12) <;> cases decide (k ∈ (dotsF (xorF f g)).take m) <;> rfl
  unfold jumpF
  rw [e, List.length_take, Nat.min_eq_left hm]
theorem jump_rest {f g : Nat → Int} (hf : R16 f) (hg : R16 g) {m : Nat} (hm : m ≤ (dotsF (xorF f g)).length) : jumpF (morphF f g m) g = jumpF f g - m := by
  have hsub : ((dotsF (xorF f g)).take m).Sublist (List.range 144) := (List.take_sublist _ _).trans List.filter_sublist
  have hLd : ∀ k ∈ (dotsF (xorF f g)).take m, dot (xorF f g) (k % 12) (k / 12) = true := fun k hk => (mem_dotsF.1 (List.mem_of_mem_take hk)).2
  have hdm : ∀ x y, x < 12 → y < 12 → dot (morphF f g m) x y = (dot f x y ^^ decide (y * 12 + x ∈ (dotsF (xorF f g)).take m)) := fun x y hx hy => dot_morphF hf hg hx hy
  have hlen : ((dotsF (xorF f g)).take m).length = m := by rw [List.length_take, Nat.min_eq_left hm]
  have hr := morphF_r16 (g := g) hf m
  generalize (dotsF (xorF f g)).take m = L at hsub hLd hdm hlen
  generalize morphF f g m = M at hdm hr ⊢
  have h1 := filter_two (fun k => dot (xorF f g) (k % 12) (k / 12)) (fun k => decide (k ∈ L)) (List.range 144)
  have e1 : (List.range 144).filter (fun k => dot (xorF f g) (k % 12) (k / 12) && decide (k ∈ L)) = L := by
    conv => rhs; rw [← filter_sub hsub List.nodup_range]
    refine List.filter_congr fun k hk => ?_
    by_cases h : k ∈ L
    · simp [h, hLd k h]
    · simp [h]
  have e2 : dotsF (xorF M g) = (List.range 144).filter (fun k => dot (xorF f g) (k % 12) (k / 12) && !decide (k ∈ L)) := by
    unfold dotsF dotsTo
    refine List.filter_congr fun k hk => ?_
    have hk := List.mem_range.1 hk
    rw [dot_xorF hr hg (by omega), hdm _ _ (by omega) (by omega), mod_kd]
    by_cases h : k ∈ L
    · have := hLd k h
      rw [dot_xorF hf hg (by omega)] at this ⊢
      simp only [h, decide_true, Bool.not_true, Bool.and_false]
      revert this
      cases dot f (k % 12) (k / 12) <;> cases dot g (k % 12) (k / 12) <;> simp
    · rw [dot_xorF hf hg (by omega)]
      simp [h]
  rw [e1, ← e2, hlen] at h1
  unfold jumpF
  have h3 : (dotsF (xorF f g)).length = m + (dotsF (xorF M g)).length := h1
  omega
theorem dot_12 {f : Nat → Int} (h : F12 f) {x y : Nat} (hx : 12 ≤ x) (hy : y < 12) : dot f x y = false := by
  have := h y hy
  unfold dot
  apply Nat.testBit_lt_two_pow
  have : (2 : Nat) ^ 12 ≤ 2 ^ x := Nat.pow_le_pow_right (by omega) hx
  omega
theorem flipF_12 {f : Nat → Int} (h : F12 f) {k : Nat} : F12 (flipF f k) := fun j hj => by
  unfold flipF upd
  split
  · have := h (k / 12) (by omega)
    have h2 : (2 : Nat) ^ (k % 12) < 2 ^ 12 := Nat.pow_lt_pow_right (by omega) (Nat.mod_lt _ (by omega))
    have := Nat.xor_lt_two_pow (n := 12) (x := (f (k / 12)).toNat) (y := 2 ^ (k % 12)) (by omega) h2
    omega
  · exact h j hj
theorem flips_12 : ∀ (l : List Nat) {f : Nat → Int}, F12 f → F12 (flips f l)
  | [], _, h => h
  | k :: l, f, h => flips_12 l (flipF_12 h)
theorem morphF_12 {f g : Nat → Int} (hf : F12 f) (m : Nat) : F12 (morphF f g m) := flips_12 _ hf
theorem f12_ext {f g : Nat → Int} (hf : F12 f) (hg : F12 g) (h : ∀ x y, x < 12 → y < 12 → dot f x y = dot g x y) : allEq 12 f g = true := by
  refine allEq_iff.2 (dot_ext hf.r16 hg.r16 fun x y hx hy => ?_)
  by_cases h12 : x < 12
  · exact h x y h12 hy
  · rw [dot_12 hf (by omega) hy, dot_12 hg (by omega) hy]
theorem morph_all {f g : Nat → Int} (hf : F12 f) (hg : F12 g) : allEq 12 (morphF f g (dotsF (xorF f g)).length) g = true := by
  refine f12_ext (morphF_12 hf _) hg fun x y hx hy => ?_
  rw [dot_morphF hf.r16 hg.r16 hx hy, List.take_length]
  have e : (y * 12 + x ∈ dotsF (xorF f g)) ↔ dot (xorF f g) x y = true := by
    rw [mem_dotsF, show (y * 12 + x) % 12 = x by omega, show (y * 12 + x) / 12 = y by omega]
    exact ⟨fun h => h.2, fun h => ⟨by omega, h⟩⟩
  rw [dot_xorF hf.r16 hg.r16 hy] at e
  by_cases h : y * 12 + x ∈ dotsF (xorF f g)
  · have h2 := e.1 h
    simp only [h, decide_true]
    revert h2
    cases dot f x y <;> cases dot g x y <;> simp
  · have h2 : ¬ (dot f x y ^^ dot g x y) = true := fun h3 => h (e.2 h3)
    simp only [h, decide_false]
    revert h2
    cases dot f x y <;> cases dot g x y <;> simp
theorem most_morph {f g : Nat → Int} (hf : F12 f) (hg : F12 g) (m : Nat) : allEq 12 (mostF f g (morphF f g m)) (morphF f g m) = true := by
  have hh := morphF_12 (g := g) hf m
  have e : mostF f g (morphF f g m) = joinF (joinF (meetF f g) (meetF f (morphF f g m))) (meetF g (morphF f g m)) := rfl
  have r1 : R16 (meetF f g) := (meetF_12 hf.r16 hg).r16
  have r2 : R16 (meetF f (morphF f g m)) := (meetF_12 hf.r16 hh).r16
  have r3 : R16 (meetF g (morphF f g m)) := (meetF_12 hg.r16 hh).r16
  refine allEq_iff.2 (dot_ext (by rw [e]; exact joinF_r16 (joinF_r16 r1 r2) r3) hh.r16 fun x y hx hy => ?_)
  rw [e, dot_joinF (joinF_r16 r1 r2) r3 hy, dot_joinF r1 r2 hy, dot_meetF hf.r16 hg.r16 hy, dot_meetF hf.r16 hh.r16 hy, dot_meetF hg.r16 hh.r16 hy]
  by_cases h12 : x < 12
  · have key : dot (morphF f g m) x y = dot f x y ∨ dot (morphF f g m) x y = dot g x y := by
      rw [dot_morphF hf.r16 hg.r16 h12 hy]
      by_cases h : y * 12 + x ∈ (dotsF (xorF f g)).take m
      · have h2 := (mem_dotsF.1 (List.mem_of_mem_take h)).2
        rw [show (y * 12 + x) % 12 = x by omega, show (y * 12 + x) / 12 = y by omega, dot_xorF hf.r16 hg.r16 hy] at h2
        simp only [h, decide_true]
        revert h2
        cases dot f x y <;> cases dot g x y <;> simp
      · simp [h]
    rcases key with k | k <;> rw [k] <;> cases dot f x y <;> cases dot g x y <;> rfl
  · rw [dot_12 hf (by omega) hy, dot_12 hg (by omega) hy, dot_12 hh (by omega) hy]; rfl
end Go.Proofs.Ytpginknbmmdmoaa

