/- Contracts of functions of the translated program, by the walk. -/
import Derived.Test.YtjkkallcgplgmaaNp2
set_option linter.unusedVariables false
set_option linter.unusedSimpArgs false
set_option maxRecDepth 8000
set_option maxHeartbeats 4000000
namespace Go.Proofs.Ytjkkallcgplgmaa
open Go Go.Sx
theorem cmpI_neg {x y : Int} (h : x < y) : cmpI x y = -1 := by unfold cmpI; rw [if_pos h]
theorem cmpI_pos {x y : Int} (h : ¬ x < y) : 0 ≤ cmpI x y := by unfold cmpI; rw [if_neg h]; split <;> omega
theorem Mix.dom {f g : Nat → Int} {a b N : Nat} {D : Int → Prop} (h : Mix f g a b) (hb : b ≤ N) (hD : ∀ x, x < N → D (f x)) : ∀ x, x < N → D (g x) := fun x hx => by
  by_cases h1 : a ≤ x ∧ x < b
  · obtain ⟨y, hy, e⟩ := h.to x h1.1 h1.2
    rw [e]; exact hD y (by omega)
  · rw [h.out x (by omega)]; exact hD x hx
/-- One on its way to its place. -/
structure Ins (k : Int → Int) (g : Nat → Int) (a i j : Nat) (v : Int) : Prop where
  srt : ∀ x y, a ≤ x → x < y → y ≤ i → x ≠ j → y ≠ j → Bef k (g x) (g y)
  up : ∀ y, j < y → y ≤ i → k v < k (g y)
  low : ∀ x, a ≤ x → x ≤ i → x ≠ j → g x < v
  at_ : g j = v
theorem Ins.step {k : Int → Int} {g : Nat → Int} {a i j : Nat} {v : Int} (h : Ins k g a i (j + 1) v) (ha : a ≤ j) (hi : j + 1 ≤ i) (hk : k v < k (g j)) : Ins k (upd (upd g (j + 1) (g j)) j (g (j + 1))) a i j v := by
  have e1 : ∀ x, x ≠ j → x ≠ j + 1 → upd (upd g (j + 1) (g j)) j (g (j + 1)) x = g x := fun x h1 h2 => by unfold upd; rw [if_neg h1, if_neg h2]
  have e2 : upd (upd g (j + 1) (g j)) j (g (j + 1)) (j + 1) = g j := by unfold upd; rw [if_neg (by omega), if_pos rfl]
  refine ⟨fun x y h1 h2 h3 h4 h5 => ?_, fun y h1 h2 => ?_, fun x h1 h2 h3 => ?_, ?_⟩
  · by_cases c1 : x = j + 1
    · subst c1
      rw [e2, e1 y (by omega) (by omega)]
      exact h.srt j y ha (by omega) h3 (by omega) (by omega)
    · rw [e1 x h4 c1]
      by_cases c2 : y = j + 1
      · subst c2
        rw [e2]
        exact h.srt x j h1 (by omega) (by omega) (by omega) (by omega)
      · rw [e1 y h5 c2]
        exact h.srt x y h1 h2 h3 c1 c2
  · by_cases c : y = j + 1
    · rw [c, e2]; exact hk
    · rw [e1 y (by omega) c]; exact h.up y (by omega) h2
  · by_cases c : x = j + 1
    · rw [c, e2]; exact h.low j ha (by omega) (by omega)
    · rw [e1 x h3 c]; exact h.low x h1 h2 c
  · unfold upd; rw [if_pos rfl]; exact h.at_
theorem Ins.done {k : Int → Int} {g : Nat → Int} {a i j : Nat} {v : Int} (h : Ins k g a i j v) (ha : a ≤ j) (hi : j ≤ i) (hk : a < j → ¬ k v < k (g (j - 1))) : Srt k g a (i + 1) := fun x y h1 h2 h3 => by
  by_cases c1 : x = j
  · subst c1
    have := h.up y h2 (by omega)
    rw [h.at_]; exact .inl this
  · by_cases c2 : y = j
    · subst c2
      have q := hk (by omega)
      have q3 := h.low x h1 (by omega) (by omega)
      have q2 : k (g x) ≤ k (g (y - 1)) := by
        by_cases c3 : x = y - 1
        · rw [c3]; exact Int.le_refl _
        · have := h.srt x (y - 1) h1 (by omega) (by omega) (by omega) (by omega)
          unfold Bef at this; omega
      rw [h.at_]
      unfold Bef; omega
    · exact h.srt x y h1 h2 (by omega) c1 c2
theorem Ins.start {k : Int → Int} {g : Nat → Int} {a i : Nat} (h : Srt k g a i) (hl : ∀ x, a ≤ x → x < i → g x < g i) : Ins k g a i i (g i) :=
  ⟨fun x y h1 h2 h3 _ h5 => h x y h1 h2 (by omega), fun y h1 h2 => by omega, fun x h1 h2 h3 => hl x h1 (by omega), rfl⟩
theorem insertion {H : List Blk} {bi N : Nat} {f : Nat → Int} {ty : TypeId} {kd : BK} {c : Cap} {fn : Nat} {cs : List V} {a b : Nat} {xa xb : Int} {kf : Int → Int} {D : Int → Prop} (hb : H[bi]? = some ⟨rowL .i64 N f, ty, kd⟩) (hk : kd.mut = true) (hN : N ≤ 1000) (hcs : cs.all V.solid = true) (hf : ∀ (g : Nat → Int) (x y : Int), D x → D y → Cal Try.prog fn ([.v (.int .i64 x), .v (.int .i64 y)] ++ cs) (H.set bi ⟨rowL .i64 N (g), ty, kd⟩) fun u H' => u = .v (.int .i64 (cmpI (kf x) (kf y))) ∧ H' = H.set bi ⟨rowL .i64 N (g), ty, kd⟩) (hD : ∀ x, x < N → D (f x)) (ha : xa = a) (hb2 : xb = b) (hab : a ≤ b) (hbn : b ≤ N) (hinc : ∀ x y, a ≤ x → x < y → y < b → f x < f y) :
    Cal Try.prog 138 [.s bi 0 N c, .v (.int .i64 xa), .v (.int .i64 xb), .f fn cs] H fun u H' => ∃ g, Mix f g a b ∧ Srt kf g a b ∧ u = .t [] ∧ H' = H.set bi ⟨rowL .i64 N (g), ty, kd⟩ := by
  subst ha hb2
  have hlt := (List.getElem?_eq_some_iff.1 hb).1
  have hgs : ∀ b : Blk, (H.set bi b)[bi]? = some b := fun b => List.getElem?_set_self hlt
  have hlive : kd.live = true := by cases kd <;> first | rfl | cases hk
  refine cal_fn 49 mixed Try.func138 Try.ntmps138 Try.results138 rfl rfl rfl fun hw cx hx hq => ?_
  repeat (first | (simp only [go_sem, Int.reduceLT, Int.reduceLE, Int.reduceEq, Int.reduceToNat, hcs]) | ((with_reducible refine And.intro ?_ ?_); omega) | ((with_reducible refine isWKr (id := 4) ?_); refine WK_drawUp 4 [[],[],[0,1],[0,1,2],[0,1,2,3],[0,1,2,3],[0,1,2,3],[0,1,2,3,5,6],[0,1,2,3,5,6,7],[0,1,2,3],[0,1,2,3],[0,1,2,3,10],[0,1,2,3,9,10,11],[0,1,2,3,9,10,11,12],[0,1,2,3,4,5,6,7,8,9,10,11,12,13],[0,1,2,3,4,5,6,7,8,9,10,11,12,13,14],[0,1,2,3,4,5,6,7,8,9,10,11,12,13,14,15]] 14 (by kernel_rfl) ?_; dsimp only [List.take, List.drop]) | ((with_reducible refine isWKr (id := 6) ?_); refine WK_drawAt 6 [[],[],[],[],[3],[],[],[6],[5,6,7],[5,6,7,8],[],[],[10,11],[10,11,12],[0,1,5,6,7,8,9,10,11,12,13],[0,1,5,6,7,8,9,10,11,12,13,14],[0,1,2,3,4,5,6,7,8,9,10,11,12,13,14,15],[0,1,2,3,4,5,6,7,8,9,10,11,12,13,14,15,16]] (by kernel_rfl) ?_) | ((with_reducible refine And.intro ?_ ?_); first | (with_reducible rfl) | assumption | (simp only [go_sem]; done)))
  refine WK_for (fun s : Nat × (Nat → Int) => ⟨[.s bi 0 N c, .v (.int .i64 (a : Int)), .v (.int .i64 (b : Int)), .f fn cs, .any, .any, .any, .any, .v (.int .i64 s.1)] ++ junk 44, H.set bi ⟨rowL .i64 N (s.2), ty, kd⟩⟩) (fun s => (a + 1 ≤ s.1 ∧ (s.1 ≤ b ∨ s.1 = a + 1)) ∧ Mix f s.2 a (min s.1 b) ∧ Srt kf s.2 a s.1) (fun s => b + 1 - s.1) (a + 1, f) ?_ ?_ fun s hs => ?_
  · rw [set_get hb]; exact Weak.slots (by simp [go_sem])
  · exact ⟨by dsimp only; omega, Mix.refl _ _ _, fun x y h1 h2 h3 => by dsimp only at h3; omega⟩
  obtain ⟨i, g⟩ := s
  obtain ⟨hi, hm, hsr⟩ := hs
  simp only at hi hm hsr ⊢
  rcases Int.lt_or_le (i : Int) b with hc | hc
  · have hib : i < b := by omega
    rw [Nat.min_eq_left (by omega)] at hm
    have hgi : g i = f i := hm.out i (.inr (Nat.le_refl _))
    have hlow : ∀ x, a ≤ x → x < i → g x < g i := fun x h1 h2 => by
      obtain ⟨y, hy, e⟩ := hm.to x h1 h2
      rw [e, hgi]; exact hinc y i hy.1 hy.2 hib
    repeat (first | (simp only [go_sem, Int.reduceLT, Int.reduceLE, Int.reduceEq, Int.reduceToNat, hc, hcs]) | ((with_reducible refine And.intro ?_ ?_); omega) | ((with_reducible refine isWKr (id := 4) ?_); refine WK_drawUp 4 [[],[],[0,1],[0,1,2],[0,1,2,3],[0,1,2,3],[0,1,2,3],[0,1,2,3,5,6],[0,1,2,3,5,6,7],[0,1,2,3],[0,1,2,3],[0,1,2,3,10],[0,1,2,3,9,10,11],[0,1,2,3,9,10,11,12],[0,1,2,3,4,5,6,7,8,9,10,11,12,13],[0,1,2,3,4,5,6,7,8,9,10,11,12,13,14],[0,1,2,3,4,5,6,7,8,9,10,11,12,13,14,15]] 14 (by kernel_rfl) ?_; dsimp only [List.take, List.drop]) | ((with_reducible refine isWKr (id := 6) ?_); refine WK_drawAt 6 [[],[],[],[],[3],[],[],[6],[5,6,7],[5,6,7,8],[],[],[10,11],[10,11,12],[0,1,5,6,7,8,9,10,11,12,13],[0,1,5,6,7,8,9,10,11,12,13,14],[0,1,2,3,4,5,6,7,8,9,10,11,12,13,14,15],[0,1,2,3,4,5,6,7,8,9,10,11,12,13,14,15,16]] (by kernel_rfl) ?_) | ((with_reducible refine And.intro ?_ ?_); first | (with_reducible rfl) | assumption | (simp only [go_sem]; done)))
    refine WK_for (fun s : Nat × (Nat → Int) => ⟨[.s bi 0 N c, .v (.int .i64 (a : Int)), .v (.int .i64 (b : Int)), .f fn cs, .any, .any, .any, .any, .v (.int .i64 i), .v (.int .i64 s.1)] ++ junk 43, H.set bi ⟨rowL .i64 N (s.2), ty, kd⟩⟩) (fun s => (a ≤ s.1 ∧ s.1 ≤ i) ∧ Mix f s.2 a (i + 1) ∧ Ins kf s.2 a i s.1 (g i)) (fun s => s.1) (i, g) (Weak.slots ?_) ⟨⟨by dsimp only; omega, Nat.le_refl _⟩, hm.wide (Nat.le_refl _) (by omega), Ins.start hsr hlow⟩ fun s hs => ?_
    · simp [go_sem]
    obtain ⟨j, g'⟩ := s
    obtain ⟨hj, hm', hins⟩ := hs
    simp only at hj hm' hins ⊢
    have hdom := hm'.dom (by omega) hD
    have hend : Srt kf g' a (i + 1) → (a + 1 ≤ i + 1 ∧ (i + 1 ≤ b ∨ i + 1 = a + 1)) ∧ Mix f g' a (min (i + 1) b) ∧ Srt kf g' a (i + 1) := fun h => ⟨by omega, by rw [Nat.min_eq_left (by omega)]; exact hm', h⟩
    by_cases e : j = a
    · have e1 : ((a : Int) < (j : Int)) = False := eq_false (by omega)
      repeat (first | (simp only [go_sem, Int.reduceLT, Int.reduceLE, Int.reduceEq, Int.reduceToNat, e1, hgs, hk, hlive, hcs, List.set_set, rowL_length]) | ((with_reducible refine And.intro ?_ ?_); omega) | ((with_reducible refine isWKr (id := 4) ?_); refine WK_drawUp 4 [[],[],[0,1],[0,1,2],[0,1,2,3],[0,1,2,3],[0,1,2,3],[0,1,2,3,5,6],[0,1,2,3,5,6,7],[0,1,2,3],[0,1,2,3],[0,1,2,3,10],[0,1,2,3,9,10,11],[0,1,2,3,9,10,11,12],[0,1,2,3,4,5,6,7,8,9,10,11,12,13],[0,1,2,3,4,5,6,7,8,9,10,11,12,13,14],[0,1,2,3,4,5,6,7,8,9,10,11,12,13,14,15]] 14 (by kernel_rfl) ?_; dsimp only [List.take, List.drop]) | ((with_reducible refine isWKr (id := 6) ?_); refine WK_drawAt 6 [[],[],[],[],[3],[],[],[6],[5,6,7],[5,6,7,8],[],[],[10,11],[10,11,12],[0,1,5,6,7,8,9,10,11,12,13],[0,1,5,6,7,8,9,10,11,12,13,14],[0,1,2,3,4,5,6,7,8,9,10,11,12,13,14,15],[0,1,2,3,4,5,6,7,8,9,10,11,12,13,14,15,16]] (by kernel_rfl) ?_) | ((with_reducible refine And.intro ?_ ?_); first | (with_reducible rfl) | assumption | (simp only [go_sem]; done)))
      refine EK_again (i + 1, g') (Weak.slots ?_) (hend (hins.done hj.1 hj.2 fun h => absurd h (by omega))) (by dsimp only; omega)
      simp [go_sem]
    obtain ⟨j, rfl⟩ : ∃ j', j = j' + 1 := ⟨j - 1, by omega⟩
    have e1 : ((a : Int) < ((j + 1 : Nat) : Int)) = True := eq_true (by omega)
    have g1 : j + 1 < N := by omega
    have g2 : j < N := by omega
    have t1 : (((j + 1 : Nat) : Int) - 1).toNat = j := by omega
    have t2 : (((j + 1 : Nat) : Int)).toNat = j + 1 := by omega
    have hcl := hf g' (g' (j + 1)) (g' j) (hdom _ g1) (hdom _ g2)
    by_cases e2 : kf (g' (j + 1)) < kf (g' j)
    · rw [cmpI_neg e2] at hcl
      repeat (first | (simp only [go_sem, Int.reduceLT, Int.reduceLE, Int.reduceEq, Int.reduceToNat, e1, hgs, hk, hlive, hcs, List.set_set, rowL_length, t1, t2, rowL_cel _ _ _ g1, rowL_cel _ _ _ g2, rowL_wr _ _ _ g1, rowL_wr _ _ _ g2]) | ((with_reducible refine And.intro ?_ ?_); omega) | ((with_reducible refine isSK ?_); first | (refine call_ret (hcl) (by simp only [go_sem, Int.reduceLT, Int.reduceLE, Int.reduceEq, Int.reduceToNat, e1, hgs, hk, hlive, hcs, List.set_set, rowL_length, t1, t2, rowL_cel _ _ _ g1, rowL_cel _ _ _ g2, rowL_wr _ _ _ g1, rowL_wr _ _ _ g2]) ?_)) | ((with_reducible refine isMC ?_); first | (refine mcall_ret (hcl) (by simp only [go_sem, Int.reduceLT, Int.reduceLE, Int.reduceEq, Int.reduceToNat, e1, hgs, hk, hlive, hcs, List.set_set, rowL_length, t1, t2, rowL_cel _ _ _ g1, rowL_cel _ _ _ g2, rowL_wr _ _ _ g1, rowL_wr _ _ _ g2]) (by simp only [go_sem, Int.reduceLT, Int.reduceLE, Int.reduceEq, Int.reduceToNat, e1, hgs, hk, hlive, hcs, List.set_set, rowL_length, t1, t2, rowL_cel _ _ _ g1, rowL_cel _ _ _ g2, rowL_wr _ _ _ g1, rowL_wr _ _ _ g2]) ?_)) | ((with_reducible refine isWKr (id := 4) ?_); refine WK_drawUp 4 [[],[],[0,1],[0,1,2],[0,1,2,3],[0,1,2,3],[0,1,2,3],[0,1,2,3,5,6],[0,1,2,3,5,6,7],[0,1,2,3],[0,1,2,3],[0,1,2,3,10],[0,1,2,3,9,10,11],[0,1,2,3,9,10,11,12],[0,1,2,3,4,5,6,7,8,9,10,11,12,13],[0,1,2,3,4,5,6,7,8,9,10,11,12,13,14],[0,1,2,3,4,5,6,7,8,9,10,11,12,13,14,15]] 14 (by kernel_rfl) ?_; dsimp only [List.take, List.drop]) | ((with_reducible refine isWKr (id := 6) ?_); refine WK_drawAt 6 [[],[],[],[],[3],[],[],[6],[5,6,7],[5,6,7,8],[],[],[10,11],[10,11,12],[0,1,5,6,7,8,9,10,11,12,13],[0,1,5,6,7,8,9,10,11,12,13,14],[0,1,2,3,4,5,6,7,8,9,10,11,12,13,14,15],[0,1,2,3,4,5,6,7,8,9,10,11,12,13,14,15,16]] (by kernel_rfl) ?_) | ((with_reducible refine And.intro ?_ ?_); first | (with_reducible rfl) | assumption | (simp only [go_sem]; done)))
      refine EK_again (j, upd (upd g' (j + 1) (g' j)) j (g' (j + 1))) (Weak.slots ?_) ⟨by dsimp only; omega, hm'.trans (Mix.swap g' (by omega) (by omega)), hins.step (by omega) hj.2 (by rw [← hins.at_]; exact e2)⟩ (by dsimp only; omega)
      simp [go_sem] <;> omega
    · obtain ⟨z, hz⟩ : ∃ z, cmpI (kf (g' (j + 1))) (kf (g' j)) = z := ⟨_, rfl⟩
      have hz0 := cmpI_pos e2
      rw [hz] at hcl hz0
      have hz1 : (z < 0) = False := eq_false (by omega)
      repeat (first | (simp only [go_sem, Int.reduceLT, Int.reduceLE, Int.reduceEq, Int.reduceToNat, e1, hz1, hgs, hk, hlive, hcs, List.set_set, rowL_length, t1, t2, rowL_cel _ _ _ g1, rowL_cel _ _ _ g2]) | ((with_reducible refine And.intro ?_ ?_); omega) | ((with_reducible refine isSK ?_); first | (refine call_ret (hcl) (by simp only [go_sem, Int.reduceLT, Int.reduceLE, Int.reduceEq, Int.reduceToNat, e1, hz1, hgs, hk, hlive, hcs, List.set_set, rowL_length, t1, t2, rowL_cel _ _ _ g1, rowL_cel _ _ _ g2]) ?_)) | ((with_reducible refine isMC ?_); first | (refine mcall_ret (hcl) (by simp only [go_sem, Int.reduceLT, Int.reduceLE, Int.reduceEq, Int.reduceToNat, e1, hz1, hgs, hk, hlive, hcs, List.set_set, rowL_length, t1, t2, rowL_cel _ _ _ g1, rowL_cel _ _ _ g2]) (by simp only [go_sem, Int.reduceLT, Int.reduceLE, Int.reduceEq, Int.reduceToNat, e1, hz1, hgs, hk, hlive, hcs, List.set_set, rowL_length, t1, t2, rowL_cel _ _ _ g1, rowL_cel _ _ _ g2]) ?_)) | ((with_reducible refine isWKr (id := 4) ?_); refine WK_drawUp 4 [[],[],[0,1],[0,1,2],[0,1,2,3],[0,1,2,3],[0,1,2,3],[0,1,2,3,5,6],[0,1,2,3,5,6,7],[0,1,2,3],[0,1,2,3],[0,1,2,3,10],[0,1,2,3,9,10,11],[0,1,2,3,9,10,11,12],[0,1,2,3,4,5,6,7,8,9,10,11,12,13],[0,1,2,3,4,5,6,7,8,9,10,11,12,13,14],[0,1,2,3,4,5,6,7,8,9,10,11,12,13,14,15]] 14 (by kernel_rfl) ?_; dsimp only [List.take, List.drop]) | ((with_reducible refine isWKr (id := 6) ?_); refine WK_drawAt 6 [[],[],[],[],[3],[],[],[6],[5,6,7],[5,6,7,8],[],[],[10,11],[10,11,12],[0,1,5,6,7,8,9,10,11,12,13],[0,1,5,6,7,8,9,10,11,12,13,14],[0,1,2,3,4,5,6,7,8,9,10,11,12,13,14,15],[0,1,2,3,4,5,6,7,8,9,10,11,12,13,14,15,16]] (by kernel_rfl) ?_) | ((with_reducible refine And.intro ?_ ?_); first | (with_reducible rfl) | assumption | (simp only [go_sem]; done)))
      refine EK_again (i + 1, g') (Weak.slots ?_) (hend (hins.done hj.1 hj.2 fun _ => by rw [← hins.at_]; exact e2)) (by dsimp only; omega)
      simp [go_sem]
  · repeat (first | (simp only [go_sem, Int.reduceLT, Int.reduceLE, Int.reduceEq, Int.reduceToNat, Int.not_lt.2 hc]) | ((with_reducible refine And.intro ?_ ?_); omega) | ((with_reducible refine isWKr (id := 4) ?_); refine WK_drawUp 4 [[],[],[0,1],[0,1,2],[0,1,2,3],[0,1,2,3],[0,1,2,3],[0,1,2,3,5,6],[0,1,2,3,5,6,7],[0,1,2,3],[0,1,2,3],[0,1,2,3,10],[0,1,2,3,9,10,11],[0,1,2,3,9,10,11,12],[0,1,2,3,4,5,6,7,8,9,10,11,12,13],[0,1,2,3,4,5,6,7,8,9,10,11,12,13,14],[0,1,2,3,4,5,6,7,8,9,10,11,12,13,14,15]] 14 (by kernel_rfl) ?_; dsimp only [List.take, List.drop]) | ((with_reducible refine isWKr (id := 6) ?_); refine WK_drawAt 6 [[],[],[],[],[3],[],[],[6],[5,6,7],[5,6,7,8],[],[],[10,11],[10,11,12],[0,1,5,6,7,8,9,10,11,12,13],[0,1,5,6,7,8,9,10,11,12,13,14],[0,1,2,3,4,5,6,7,8,9,10,11,12,13,14,15],[0,1,2,3,4,5,6,7,8,9,10,11,12,13,14,15,16]] (by kernel_rfl) ?_) | ((with_reducible refine And.intro ?_ ?_); first | (with_reducible rfl) | assumption | (simp only [go_sem]; done)))
    refine ret_at hq _ (.inr rfl) (by simp) ?_
    have hm2 : Mix f g a b := by
      rw [Nat.min_eq_right (by omega)] at hm; exact hm
    have hs2 : Srt kf g a b := hsr.sub (Nat.le_refl _) (by omega)
    simp only [go_sem]
    exact ⟨g, hm2, hs2, rfl⟩
end Go.Proofs.Ytjkkallcgplgmaa

