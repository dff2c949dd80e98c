/- Contracts of functions of the translated program, by the walk. -/
import Derived.Test.YtjkkallcgplgmaaTb2
import Derived.Test.YtjkkallcgplgmaaLD
set_option linter.unusedVariables false
set_option linter.unusedSimpArgs false
set_option maxRecDepth 8000
set_option maxHeartbeats 4000000
namespace Go.Proofs.Ytjkkallcgplgmaa
open Go Go.Sx
/-- Two ranges of so many change places. -/
def swF (f : Nat → Int) (a b n : Nat) (j : Nat) : Int := if a ≤ j ∧ j < a + n then f (b + (j - a)) else if b ≤ j ∧ j < b + n then f (a + (j - b)) else f j
/-- What lies from m to b comes before what lies from a to m. -/
def roF (f : Nat → Int) (a m b : Nat) (j : Nat) : Int := if a ≤ j ∧ j < a + (b - m) then f (m + (j - a)) else if a + (b - m) ≤ j ∧ j < b then f (a + (j - (a + (b - m)))) else f j
theorem swF_zero (f : Nat → Int) (a b : Nat) : swF f a b 0 = f := by
  funext j
  unfold swF
  (repeat' split) <;> first | rfl | (exfalso; omega) | (congr 1; omega)
theorem swF_succ (f : Nat → Int) {a b n : Nat} (h : a + n < b) : upd (upd (swF f a b n) (a + n) (swF f a b n (b + n))) (b + n) (swF f a b n (a + n)) = swF f a b (n + 1) := by
  have e1 : swF f a b n (b + n) = f (b + n) := by unfold swF; (repeat' split) <;> first | rfl | (exfalso; omega) | (congr 1; omega)
  have e2 : swF f a b n (a + n) = f (a + n) := by unfold swF; (repeat' split) <;> first | rfl | (exfalso; omega) | (congr 1; omega)
  rw [e1, e2]
  funext j
  unfold upd swF
  (repeat' split) <;> first | rfl | (exfalso; omega) | (congr 1; omega)
theorem roF_end (f : Nat → Int) {m i : Nat} (h : i ≤ m) : swF f (m - i) m i = roF f (m - i) m (m + i) := by
  funext j
  unfold swF roF
  (repeat' split) <;> first | rfl | (exfalso; omega) | (congr 1; omega)
theorem roF_left (f : Nat → Int) {m i j : Nat} (h : i ≤ m) (hj : j < i) : roF (swF f (m - i) m j) (m - (i - j)) m (m + j) = roF f (m - i) m (m + j) := by
  funext x
  unfold roF swF
  (repeat' split) <;> first | rfl | (exfalso; omega) | (congr 1; omega)
theorem roF_right (f : Nat → Int) {m i j : Nat} (h : i ≤ m) (hj : i < j) : roF (swF f (m - i) (m + j - i) i) (m - i) m (m + (j - i)) = roF f (m - i) m (m + j) := by
  funext x
  unfold roF swF
  (repeat' split) <;> first | rfl | (exfalso; omega) | (congr 1; omega)
theorem roF_id (f : Nat → Int) {a m b : Nat} (h : a ≤ m ∧ m ≤ b) (h2 : a = m ∨ m = b) : roF f a m b = f := by
  funext j
  unfold roF
  (repeat' split) <;> first | rfl | (exfalso; omega) | (congr 1; omega)
/-- The same values in a range, and outside nothing has changed. -/
structure Mix (f g : Nat → Int) (a b : Nat) : Prop where
  out : ∀ x, (x < a ∨ b ≤ x) → g x = f x
  to : ∀ x, a ≤ x → x < b → ∃ y, (a ≤ y ∧ y < b) ∧ g x = f y
  fro : ∀ x, a ≤ x → x < b → ∃ y, (a ≤ y ∧ y < b) ∧ f x = g y
theorem Mix.refl (f : Nat → Int) (a b : Nat) : Mix f f a b := ⟨fun _ _ => rfl, fun x h1 h2 => ⟨x, ⟨h1, h2⟩, rfl⟩, fun x h1 h2 => ⟨x, ⟨h1, h2⟩, rfl⟩⟩
theorem Mix.trans {f g h : Nat → Int} {a b : Nat} (h1 : Mix f g a b) (h2 : Mix g h a b) : Mix f h a b := by
  refine ⟨fun x hx => (h2.out x hx).trans (h1.out x hx), fun x ha hb => ?_, fun x ha hb => ?_⟩
  · obtain ⟨y, hy, e⟩ := h2.to x ha hb
    obtain ⟨z, hz, e2⟩ := h1.to y hy.1 hy.2
    exact ⟨z, hz, e.trans e2⟩
  · obtain ⟨y, hy, e⟩ := h1.fro x ha hb
    obtain ⟨z, hz, e2⟩ := h2.fro y hy.1 hy.2
    exact ⟨z, hz, e.trans e2⟩
theorem Mix.wide {f g : Nat → Int} {a b a' b' : Nat} (h : Mix f g a b) (ha : a' ≤ a) (hb : b ≤ b') : Mix f g a' b' := by
  refine ⟨fun x hx => h.out x (by omega), fun x h1 h2 => ?_, fun x h1 h2 => ?_⟩
  · by_cases hx : a ≤ x ∧ x < b
    · obtain ⟨y, hy, e⟩ := h.to x hx.1 hx.2
      exact ⟨y, by omega, e⟩
    · exact ⟨x, ⟨h1, h2⟩, h.out x (by omega)⟩
  · by_cases hx : a ≤ x ∧ x < b
    · obtain ⟨y, hy, e⟩ := h.fro x hx.1 hx.2
      exact ⟨y, by omega, e⟩
    · exact ⟨x, ⟨h1, h2⟩, (h.out x (by omega)).symm⟩
theorem Mix.rot (f : Nat → Int) {a m b : Nat} (h : a ≤ m ∧ m ≤ b) : Mix f (roF f a m b) a b := by
  refine ⟨fun x hx => ?_, fun x h1 h2 => ?_, fun x h1 h2 => ?_⟩
  · unfold roF; rw [if_neg (by omega), if_neg (by omega)]
  · unfold roF
    by_cases hx : x < a + (b - m)
    · rw [if_pos ⟨h1, hx⟩]; exact ⟨_, by omega, rfl⟩
    · rw [if_neg (by omega), if_pos (by omega)]; exact ⟨_, by omega, rfl⟩
  · by_cases hx : x < m
    · refine ⟨a + (b - m) + (x - a), by omega, ?_⟩
      unfold roF; rw [if_neg (by omega), if_pos (by omega)]; congr 1; omega
    · refine ⟨a + (x - m), by omega, ?_⟩
      unfold roF; rw [if_pos (by omega)]; congr 1; omega
theorem Mix.swap (f : Nat → Int) {a b i j : Nat} (hi : a ≤ i ∧ i < b) (hj : a ≤ j ∧ j < b) : Mix f (upd (upd f i (f j)) j (f i)) a b := by
  refine ⟨fun x hx => ?_, fun x h1 h2 => ?_, fun x h1 h2 => ?_⟩
  · unfold upd; rw [if_neg (by omega), if_neg (by omega)]
  · unfold upd
    by_cases e : x = j
    · rw [if_pos e]; exact ⟨i, hi, rfl⟩
    · rw [if_neg e]
      by_cases e2 : x = i
      · rw [if_pos e2]; exact ⟨j, hj, rfl⟩
      · rw [if_neg e2]; exact ⟨x, ⟨h1, h2⟩, rfl⟩
  · by_cases e : x = j
    · subst e
      by_cases e3 : i = x
      · refine ⟨x, ⟨h1, h2⟩, ?_⟩; unfold upd; rw [if_pos rfl, e3]
      · refine ⟨i, hi, ?_⟩; unfold upd; rw [if_neg e3, if_pos rfl]
    · by_cases e2 : x = i
      · refine ⟨j, hj, ?_⟩; unfold upd; rw [if_pos rfl, e2]
      · refine ⟨x, ⟨h1, h2⟩, ?_⟩; unfold upd; rw [if_neg e, if_neg e2]
/-- One stands before another: by its key, then by its number. -/
def Bef (k : Int → Int) (x y : Int) : Prop := k x < k y ∨ (k x = k y ∧ x < y)
theorem Bef.trans {k : Int → Int} {x y z : Int} (h : Bef k x y) (h2 : Bef k y z) : Bef k x z := by
  unfold Bef at *; omega
def Srt (k : Int → Int) (f : Nat → Int) (a b : Nat) : Prop := ∀ x y, a ≤ x → x < y → y < b → Bef k (f x) (f y)
theorem Srt.le {k : Int → Int} {f : Nat → Int} {a b : Nat} (h : Srt k f a b) {x y : Nat} (h1 : a ≤ x) (h2 : x ≤ y) (h3 : y < b) : k (f x) ≤ k (f y) := by
  rcases Nat.lt_or_eq_of_le h2 with h4 | rfl
  · have := h x y h1 h4 h3; unfold Bef at this; omega
  · exact Int.le_refl _
theorem Srt.sub {k : Int → Int} {f : Nat → Int} {a b a' b' : Nat} (h : Srt k f a b) (ha : a ≤ a') (hb : b' ≤ b) : Srt k f a' b' := fun x y h1 h2 h3 => h x y (by omega) h2 (by omega)
theorem Srt.congr {k : Int → Int} {f g : Nat → Int} {a b : Nat} (h : Srt k f a b) (e : ∀ x, a ≤ x → x < b → g x = f x) : Srt k g a b := fun x y h1 h2 h3 => by
  rw [e x h1 (by omega), e y (by omega) h3]; exact h x y h1 h2 h3
/-- No later one of the same key has a lower number. -/
def Crs (k : Int → Int) (f : Nat → Int) (a m b : Nat) : Prop := ∀ x y, a ≤ x → x < m → m ≤ y → y < b → k (f x) = k (f y) → f x < f y
theorem srt_join {k : Int → Int} {f : Nat → Int} {a m b : Nat} (h1 : Srt k f a m) (h2 : Srt k f m b) (h3 : ∀ x y, a ≤ x → x < m → m ≤ y → y < b → Bef k (f x) (f y)) : Srt k f a b := fun x y hx hxy hy => by
  by_cases e : y < m
  · exact h1 x y hx hxy e
  · by_cases e2 : x < m
    · exact h3 x y hx e2 (by omega) hy
    · exact h2 x y (by omega) hxy hy
/-- The merge's halves. -/
theorem sym_ok {k : Int → Int} {f : Nat → Int} {a m b s e d : Nat} (hl : Srt k f a m) (hr : Srt k f m b) (hc : Crs k f a m b) (ham : a ≤ s ∧ s ≤ m) (hmb : m ≤ e ∧ e ≤ b) (hd : d = s + (e - m))
    (f1 : a < s → e < b → k (f (s - 1)) ≤ k (f e)) (f2 : s < m → m < e → k (f (e - 1)) < k (f s)) {g1 g2 : Nat → Int} (m1 : Mix (roF f s m e) g1 a d) (s1 : Srt k g1 a d) (m2 : Mix g1 g2 d b) (s2 : Srt k g2 d b) :
    Srt k g2 a b := by
  have o1 : ∀ x, a ≤ x → x < d → g2 x = g1 x := fun x _ h => m2.out x (.inl h)
  refine srt_join (m := d) (s1.congr o1) s2 fun x y hx hxd hy hyb => ?_
  rw [o1 x hx hxd]
  obtain ⟨u, hu, eu⟩ := m1.to x hx hxd
  obtain ⟨v, hv, ev⟩ := m2.to y hy hyb
  rw [m1.out v (.inr hv.1)] at ev
  rw [eu, ev]
  have cu : (u < s ∧ roF f s m e u = f u) ∨ (s ≤ u ∧ roF f s m e u = f (m + (u - s))) := by
    unfold roF
    by_cases h : u < s
    · left; exact ⟨h, by rw [if_neg (by omega), if_neg (by omega)]⟩
    · right; exact ⟨by omega, by rw [if_pos (by omega)]⟩
  have cv : (v < e ∧ roF f s m e v = f (s + (v - (s + (e - m))))) ∨ (e ≤ v ∧ roF f s m e v = f v) := by
    unfold roF
    by_cases h : v < e
    · left; exact ⟨h, by rw [if_neg (by omega), if_pos (by omega)]⟩
    · right; exact ⟨by omega, by rw [if_neg (by omega), if_neg (by omega)]⟩
  rcases cu with ⟨h1, e1⟩ | ⟨h1, e1⟩ <;> rcases cv with ⟨h2, e2⟩ | ⟨h2, e2⟩ <;> rw [e1, e2]
  · exact hl _ _ (by omega) (by omega) (by omega)
  · have q := f1 (by omega) (by omega)
    have q1 := hl.le (x := u) (y := s - 1) (by omega) (by omega) (by omega)
    have q2 := hr.le (x := e) (y := v) (by omega) (by omega) (by omega)
    have q3 := hc u v (by omega) (by omega) (by omega) (by omega)
    unfold Bef; omega
  · have q := f2 (by omega) (by omega)
    have q1 := hr.le (x := m + (u - s)) (y := e - 1) (by omega) (by omega) (by omega)
    have q2 := hl.le (x := s) (y := s + (v - (s + (e - m)))) (by omega) (by omega) (by omega)
    unfold Bef; omega
  · exact hr _ _ (by omega) (by omega) (by omega)
theorem sym_lo {k : Int → Int} {f : Nat → Int} {a m b s e d : Nat} (hl : Srt k f a m) (hr : Srt k f m b) (hc : Crs k f a m b) (ham : a ≤ s ∧ s ≤ m) (hmb : m ≤ e ∧ e ≤ b) (hd : d = s + (e - m)) :
    Srt k (roF f s m e) a s ∧ Srt k (roF f s m e) s d ∧ Crs k (roF f s m e) a s d := by
  have g1 : ∀ x, x < s → roF f s m e x = f x := fun x h => by unfold roF; rw [if_neg (by omega), if_neg (by omega)]
  have g2 : ∀ x, s ≤ x → x < d → roF f s m e x = f (m + (x - s)) := fun x h h2 => by unfold roF; rw [if_pos (by omega)]
  refine ⟨(hl.sub (Nat.le_refl _) ham.2).congr fun x _ h => g1 x h, fun x y h1 h2 h3 => ?_, fun x y h1 h2 h3 h4 => ?_⟩
  · rw [g2 x h1 (by omega), g2 y (by omega) h3]; exact hr _ _ (by omega) (by omega) (by omega)
  · rw [g1 x h2, g2 y h3 h4]; exact hc _ _ h1 (by omega) (by omega) (by omega)
theorem sym_hi {k : Int → Int} {f g : Nat → Int} {a m b s e d : Nat} (hl : Srt k f a m) (hr : Srt k f m b) (hc : Crs k f a m b) (ham : a ≤ s ∧ s ≤ m) (hmb : m ≤ e ∧ e ≤ b) (hd : d = s + (e - m)) (hg : ∀ x, d ≤ x → g x = roF f s m e x) :
    Srt k g d e ∧ Srt k g e b ∧ Crs k g d e b := by
  have g1 : ∀ x, d ≤ x → x < e → g x = f (s + (x - d)) := fun x h h2 => by rw [hg x h]; unfold roF; rw [if_neg (by omega), if_pos (by omega), hd]
  have g2 : ∀ x, e ≤ x → g x = f x := fun x h => by rw [hg x (by omega)]; unfold roF; rw [if_neg (by omega), if_neg (by omega)]
  refine ⟨fun x y h1 h2 h3 => ?_, (hr.sub hmb.1 (Nat.le_refl _)).congr fun x h _ => g2 x h, fun x y h1 h2 h3 h4 => ?_⟩
  · rw [g1 x h1 (by omega), g1 y (by omega) h3]; exact hl _ _ (by omega) (by omega) (by omega)
  · rw [g1 x h1 h2, g2 y h3]; exact hc _ _ (by omega) (by omega) (by omega) h4
end Go.Proofs.Ytjkkallcgplgmaa

