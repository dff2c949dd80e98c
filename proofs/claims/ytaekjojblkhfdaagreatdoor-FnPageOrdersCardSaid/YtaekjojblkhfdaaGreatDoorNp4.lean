/- Contracts of functions of the translated program, by the walk. -/
import Derived.Test.YtaekjojblkhfdaaGreatDoorNp2
set_option linter.unusedVariables false
set_option linter.unusedSimpArgs false
set_option maxRecDepth 8000
set_option maxHeartbeats 16000000
namespace Go.Proofs.YtaekjojblkhfdaaGreatDoor
open Go Go.Sx
theorem cmpI_neg {x y : Int} (h : x < y) : cmpI x y = -1 := by unfold cmpI; rw [if_pos h]
theorem cmpI_pos {x y : Int} (h : ¬ x < y) : 0 ≤ cmpI x y := by unfold cmpI; rw [if_neg h]; split <;> omega
theorem Mix.dom {f g : Nat → Int} {a b N : Nat} {D : Int → Prop} (h : Mix f g a b) (hb : b ≤ N) (hD : ∀ x, x < N → D (f x)) : ∀ x, x < N → D (g x) := fun x hx => by
  by_cases h1 : a ≤ x ∧ x < b
  · obtain ⟨y, hy, e⟩ := h.to x h1.1 h1.2
    rw [e]; exact hD y (by omega)
  · rw [h.out x (by omega)]; exact hD x hx
structure Ins (k : Int → Int) (g : Nat → Int) (a i j : Nat) (v : Int) : Prop where
  srt : ∀ x y, a ≤ x → x < y → y ≤ i → x ≠ j → y ≠ j → Bef k (g x) (g y)
  up : ∀ y, j < y → y ≤ i → k v < k (g y)
  low : ∀ x, a ≤ x → x ≤ i → x ≠ j → g x < v
  at_ : g j = v
theorem Ins.step {k : Int → Int} {g : Nat → Int} {a i j : Nat} {v : Int} (h : Ins k g a i (j + 1) v) (ha : a ≤ j) (hi : j + 1 ≤ i) (hk : k v < k (g j)) : Ins k (upd (upd g (j + 1) (g j)) j (g (j + 1))) a i j v := by
  have e1 : ∀ x, x ≠ j → x ≠ j + 1 → upd (upd g (j + 1) (g j)) j (g (j + 1)) x = g x := fun x h1 h2 => by unfold upd; rw [if_neg h1, if_neg h2]
  have e2 : upd (upd g (j + 1) (g j)) j (g (j + 1)) (j + 1) = g j := by unfold upd; rw [if_neg (by omega), if_pos rfl]
  refine ⟨fun x y h1 h2 h3 h4 h5 => ?_, fun y h1 h2 => ?_, fun x h1 h2 h3 => ?_, ?_⟩
  · by_cases c1 : x = j + 1
    · subst c1
      rw [e2, e1 y (by omega) (by omega)]
      exact h.srt j y ha (by omega) h3 (by omega) (by omega)
    · rw [e1 x h4 c1]
      by_cases c2 : y = j + 1
      · subst c2
        rw [e2]
        exact h.srt x j h1 (by omega) (by omega) (by omega) (by omega)
      · rw [e1 y h5 c2]
        exact h.srt x y h1 h2 h3 c1 c2
  · by_cases c : y = j + 1
    · rw [c, e2]; exact hk
    · rw [e1 y (by omega) c]; exact h.up y (by omega) h2
  · by_cases c : x = j + 1
    · rw [c, e2]; exact h.low j ha (by omega) (by omega)
    · rw [e1 x h3 c]; exact h.low x h1 h2 c
  · unfold upd; rw [if_pos rfl]; exact h.at_
theorem Ins.done {k : Int → Int} {g : Nat → Int} {a i j : Nat} {v : Int} (h : Ins k g a i j v) (ha : a ≤ j) (hi : j ≤ i) (hk : a < j → ¬ k v < k (g (j - 1))) : Srt k g a (i + 1) := fun x y h1 h2 h3 => by
  by_cases c1 : x = j
  · subst c1
    have := h.up y h2 (by omega)
    rw [h.at_]; exact .inl this
  · by_cases c2 : y = j
    · subst c2
      have q := hk (by omega)
      have q3 := h.low x h1 (by omega) (by omega)
      have q2 : k (g x) ≤ k (g (y - 1)) := by
        by_cases c3 : x = y - 1
        · rw [c3]; exact Int.le_refl _
        · have := h.srt x (y - 1) h1 (by omega) (by omega) (by omega) (by omega)
          unfold Bef at this; omega
      rw [h.at_]
      unfold Bef; omega
    · exact h.srt x y h1 h2 (by omega) c1 c2
theorem Ins.start {k : Int → Int} {g : Nat → Int} {a i : Nat} (h : Srt k g a i) (hl : ∀ x, a ≤ x → x < i → g x < g i) : Ins k g a i i (g i) :=
  ⟨fun x y h1 h2 h3 _ h5 => h x y h1 h2 (by omega), fun y h1 h2 => by omega, fun x h1 h2 h3 => hl x h1 (by omega), rfl⟩
theorem insertion {H : List Blk} {bi N : Nat} {f : Nat → Int} {ty : TypeId} {kd : BK} {c : Cap} {fn : Nat} {cs : List V} {a b : Nat} {xa xb : Int} {kf : Int → Int} {D : Int → Prop} (hb : H[bi]? = some ⟨rowL .i64 N f, ty, kd⟩) (hk : kd.mut = true) (hN : N ≤ 1000) (hcs : cs.all V.solid = true) (hf : ∀ (g : Nat → Int) (x y : Int), D x → D y → Cal Tryz.prog fn ([.v (.int .i64 x), .v (.int .i64 y)] ++ cs) (H.set bi ⟨rowL .i64 N (g), ty, kd⟩) fun u H' => u = .v (.int .i64 (cmpI (kf x) (kf y))) ∧ H' = H.set bi ⟨rowL .i64 N (g), ty, kd⟩) (hD : ∀ x, x < N → D (f x)) (ha : xa = a) (hb2 : xb = b) (hab : a ≤ b) (hbn : b ≤ N) (hinc : ∀ x y, a ≤ x → x < y → y < b → f x < f y) :
    Cal Tryz.prog 113 [.s bi 0 N c, .v (.int .i64 xa), .v (.int .i64 xb), .f fn cs] H fun u H' => ∃ g, Mix f g a b ∧ Srt kf g a b ∧ u = .t [] ∧ H' = H.set bi ⟨rowL .i64 N (g), ty, kd⟩ := by
  subst ha hb2
  have hlt := (List.getElem?_eq_some_iff.1 hb).1
  have hgs : ∀ b : Blk, (H.set bi b)[bi]? = some b := fun b => List.getElem?_set_self hlt
  have hlive : kd.live = true := by cases kd <;> first | rfl | cases hk
  refine cal_fn 49 mixed Tryz.func113 Tryz.ntmps113 Tryz.results113 rfl rfl rfl fun hw cx hx hq => ?_
  repeat (first | (simp only [go_sem, Int.reduceLT, Int.reduceLE, Int.reduceEq, Int.reduceToNat, hcs]) | ((with_reducible refine And.intro ?_ ?_); omega) )
  refine WK_for (fun s : Nat × (Nat → Int) => ⟨[.s bi 0 N c, .v (.int .i64 (a : Int)), .v (.int .i64 (b : Int)), .f fn cs, .any, .any, .any, .any, .v (.int .i64 s.1)] ++ junk 44, H.set bi ⟨rowL .i64 N (s.2), ty, kd⟩⟩) (fun s => (a + 1 ≤ s.1 ∧ (s.1 ≤ b ∨ s.1 = a + 1)) ∧ Mix f s.2 a (min s.1 b) ∧ Srt kf s.2 a s.1) (fun s => b + 1 - s.1) (a + 1, f) ?_ ?_ fun s hs => ?_
  · rw [set_get hb]; exact Weak.slots (by simp [go_sem])
  · exact ⟨by dsimp only; omega, Mix.refl _ _ _, fun x y h1 h2 h3 => by dsimp only at h3; omega⟩
  obtain ⟨i, g⟩ := s
  obtain ⟨hi, hm, hsr⟩ := hs
  simp only at hi hm hsr ⊢
  rcases Int.lt_or_le (i : Int) b with hc | hc
  · have hib : i < b := by omega
    rw [Nat.min_eq_left (by omega)] at hm
    have hgi : g i = f i := hm.out i (.inr (Nat.le_refl _))
    have hlow : ∀ x, a ≤ x → x < i → g x < g i := fun x h1 h2 => by
      obtain ⟨y, hy, e⟩ := hm.to x h1 h2
      rw [e, hgi]; exact hinc y i hy.1 hy.2 hib
    repeat ((simp only [go_sem, Int.reduceLT, Int.reduceLE, Int.reduceEq, Int.reduceToNat, hc, hcs]) )
    refine WK_for (fun s : Nat × (Nat → Int) => ⟨[.s bi 0 N c, .v (.int .i64 (a : Int)), .v (.int .i64 (b : Int)), .f fn cs, .any, .any, .any, .any, .v (.int .i64 i), .v (.int .i64 s.1)] ++ junk 43, H.set bi ⟨rowL .i64 N (s.2), ty, kd⟩⟩) (fun s => (a ≤ s.1 ∧ s.1 ≤ i) ∧ Mix f s.2 a (i + 1) ∧ Ins kf s.2 a i s.1 (g i)) (fun s => s.1) (i, g) (Weak.slots ?_) ⟨⟨by dsimp only; omega, Nat.le_refl _⟩, hm.wide (Nat.le_refl _) (by omega), Ins.start hsr hlow⟩ fun s hs => ?_
    · simp [go_sem]
    obtain ⟨j, g'⟩ := s
    obtain ⟨hj, hm', hins⟩ := hs
    simp only at hj hm' hins ⊢
    have hdom := hm'.dom (by omega) hD
    have hend : Srt kf g' a (i + 1) → (a + 1 ≤ i + 1 ∧ (i + 1 ≤ b ∨ i + 1 = a + 1)) ∧ Mix f g' a (min (i + 1) b) ∧ Srt kf g' a (i + 1) := fun h => ⟨by omega, by rw [Nat.min_eq_left (by omega)]; exact hm', h⟩
    by_cases e : j = a
    · have e1 : ((a : Int) < (j : Int)) = False := eq_false (by omega)
      repeat (first | (simp only [go_sem, Int.reduceLT, Int.reduceLE, Int.reduceEq, Int.reduceToNat, e1, hgs, hk, hlive, hcs, List.set_set, rowL_length]) | ((with_reducible refine And.intro ?_ ?_); omega) | ((with_reducible refine isWKr (id := 4) ?_); refine WK_drawUp 4 [[],[],[0,1],[0,1,2],[0,1,2,3],[0,1,2,3],[0,1,2,3],[0,1,2,3,5,6],[0,1,2,3,5,6,7],[0,1,2,3],[0,1,2,3],[0,1,2,3,10],[0,1,2,3,9,10,11],[0,1,2,3,9,10,11,12],[0,1,2,3,4,5,6,7,8,9,10,11,12,13],[0,1,2,3,4,5,6,7,8,9,10,11,12,13,14],[0,1,2,3,4,5,6,7,8,9,10,11,12,13,14,15]] 14 (by kernel_rfl) ?_; dsimp only [List.take, List.drop]) )
      refine EK_again (i + 1, g') (Weak.slots ?_) (hend (hins.done hj.1 hj.2 fun h => absurd h (by omega))) (by dsimp only; omega)
      simp [go_sem]
    obtain ⟨j, rfl⟩ : ∃ j', j = j' + 1 := ⟨j - 1, by omega⟩
    have e1 : ((a : Int) < ((j + 1 : Nat) : Int)) = True := eq_true (by omega)
    have g1 : j + 1 < N := by omega
    have g2 : j < N := by omega
    have t1 : (((j + 1 : Nat) : Int) - 1).toNat = j := by omega
    have t2 : (((j + 1 : Nat) : Int)).toNat = j + 1 := by omega
    have hcl := hf g' (g' (j + 1)) (g' j) (hdom _ g1) (hdom _ g2)
    by_cases e2 : kf (g' (j + 1)) < kf (g' j)
    · rw [cmpI_neg e2] at hcl
      repeat (first | (simp only [go_sem, Int.reduceLT, Int.reduceLE, Int.reduceEq, Int.reduceToNat, e1, hgs, hk, hlive, hcs, List.set_set, rowL_length, t1, t2, rowL_cel _ _ _ g1, rowL_cel _ _ _ g2, rowL_wr _ _ _ g1, rowL_wr _ _ _ g2]) | ((with_reducible refine And.intro ?_ ?_); omega) | ((with_reducible refine isSK ?_); refine call_ret (hcl) ?_ ?_) | ((with_reducible refine isWKr (id := 4) ?_); refine WK_drawUp 4 [[],[],[0,1],[0,1,2],[0,1,2,3],[0,1,2,3],[0,1,2,3],[0,1,2,3,5,6],[0,1,2,3,5,6,7],[0,1,2,3],[0,1,2,3],[0,1,2,3,10],[0,1,2,3,9,10,11],[0,1,2,3,9,10,11,12],[0,1,2,3,4,5,6,7,8,9,10,11,12,13],[0,1,2,3,4,5,6,7,8,9,10,11,12,13,14],[0,1,2,3,4,5,6,7,8,9,10,11,12,13,14,15]] 14 (by kernel_rfl) ?_; dsimp only [List.take, List.drop]) | ((with_reducible refine isWKr (id := 6) ?_); refine WK_drawAt 6 [[],[],[],[],[3],[],[],[6],[5,6,7],[5,6,7,8],[],[],[10,11],[10,11,12],[0,1,5,6,7,8,9,10,11,12,13],[0,1,5,6,7,8,9,10,11,12,13,14],[0,1,2,3,4,5,6,7,8,9,10,11,12,13,14,15],[0,1,2,3,4,5,6,7,8,9,10,11,12,13,14,15,16]] (by kernel_rfl) ?_) )
      refine EK_again (j, upd (upd g' (j + 1) (g' j)) j (g' (j + 1))) (Weak.slots ?_) ⟨by dsimp only; omega, hm'.trans (Mix.swap g' (by omega) (by omega)), hins.step (by omega) hj.2 (by rw [← hins.at_]; exact e2)⟩ (by dsimp only; omega)
      simp [go_sem] <;> omega
    · obtain ⟨z, hz⟩ : ∃ z, cmpI (kf (g' (j + 1))) (kf (g' j)) = z := ⟨_, rfl⟩
      have hz0 := cmpI_pos e2
      rw [hz] at hcl hz0
      have hz1 : (z < 0) = False := eq_false (by omega)
      repeat (first | (simp only [go_sem, Int.reduceLT, Int.reduceLE, Int.reduceEq, Int.reduceToNat, e1, hz1, hgs, hk, hlive, hcs, List.set_set, rowL_length, t1, t2, rowL_cel _ _ _ g1, rowL_cel _ _ _ g2]) | ((with_reducible refine And.intro ?_ ?_); omega) | ((with_reducible refine isSK ?_); refine call_ret (hcl) ?_ ?_) | ((with_reducible refine isWKr (id := 4) ?_); refine WK_drawUp 4 [[],[],[0,1],[0,1,2],[0,1,2,3],[0,1,2,3],[0,1,2,3],[0,1,2,3,5,6],[0,1,2,3,5,6,7],[0,1,2,3],[0,1,2,3],[0,1,2,3,10],[0,1,2,3,9,10,11],[0,1,2,3,9,10,11,12],[0,1,2,3,4,5,6,7,8,9,10,11,12,13],[0,1,2,3,4,5,6,7,8,9,10,11,12,13,14],[0,1,2,3,4,5,6,7,8,9,10,11,12,13,14,15]] 14 (by kernel_rfl) ?_; dsimp only [List.take, List.drop]) )
      refine EK_again (i + 1, g') (Weak.slots ?_) (hend (hins.done hj.1 hj.2 fun _ => by rw [← hins.at_]; exact e2)) (by dsimp only; omega)
      simp [go_sem]
  · repeat ((simp only [go_sem, Int.reduceLT, Int.reduceLE, Int.reduceEq, Int.reduceToNat, Int.not_lt.2 hc]) )
    refine ret_at hq _ (.inr rfl) (by simp) ?_
    have hm2 : Mix f g a b := by
      rw [Nat.min_eq_right (by omega)] at hm; exact hm
    have hs2 : Srt kf g a b := hsr.sub (Nat.le_refl _) (by omega)
    simp only [go_sem]
    exact ⟨g, hm2, hs2, rfl⟩
end Go.Proofs.YtaekjojblkhfdaaGreatDoor
namespace Go.Proofs.YtaekjojblkhfdaaGreatDoor
open Go Go.Sx
theorem half_u (i j : Nat) (h : i + j ≤ 100000) : IntKind.u64.wrap ((i : Int) + (j : Int)) = (i : Int) + (j : Int) := wrap_u64 (by omega) (by omega)
theorem half_d (i j : Nat) : ((i : Int) + (j : Int)).fdiv (2 ^ min 1 64) = (((i + j) / 2 : Nat) : Int) := by
  rw [Int.fdiv_eq_ediv_of_nonneg _ (by decide)]
  show ((i : Int) + (j : Int)) / 2 = _
  omega
theorem one_left {k : Int → Int} {f : Nat → Int} {a b i : Nat} (hr : Srt k f (a + 1) b) (hc : Crs k f a (a + 1) b) (hi : a + 1 ≤ i ∧ i ≤ b) (lo : ∀ x, a + 1 ≤ x → x < i → k (f x) < k (f a)) (up : ∀ x, i ≤ x → x < b → ¬ k (f x) < k (f a)) : Srt k (roF f a (a + 1) i) a b := by
  have v1 : ∀ x, a ≤ x → x < i - 1 → roF f a (a + 1) i x = f (x + 1) := fun x h h2 => by unfold roF; rw [if_pos (by omega)]; congr 1; omega
  have v2 : roF f a (a + 1) i (i - 1) = f a := by unfold roF; rw [if_neg (by omega), if_pos (by omega)]; congr 1; omega
  have v3 : ∀ x, i ≤ x → roF f a (a + 1) i x = f x := fun x h => by unfold roF; rw [if_neg (by omega), if_neg (by omega)]
  intro x y h1 h2 h3
  rcases Nat.lt_trichotomy x (i - 1) with hx | hx | hx
  · rw [v1 x h1 hx]
    rcases Nat.lt_trichotomy y (i - 1) with hy | hy | hy
    · rw [v1 y (by omega) hy]; exact hr _ _ (by omega) (by omega) (by omega)
    · rw [hy, v2]; exact .inl (lo _ (by omega) (by omega))
    · rw [v3 y (by omega)]; exact hr _ _ (by omega) (by omega) (by omega)
  · rw [hx, v2, v3 y (by omega)]
    have q := up y (by omega) h3
    have q2 := hc a y (Nat.le_refl _) (by omega) (by omega) h3
    unfold Bef; omega
  · rw [v3 x (by omega), v3 y (by omega)]; exact hr _ _ (by omega) (by omega) h3
theorem one_right {k : Int → Int} {f : Nat → Int} {a m i : Nat} (hl : Srt k f a m) (hc : Crs k f a m (m + 1)) (hi : a ≤ i ∧ i ≤ m) (lo : ∀ x, a ≤ x → x < i → ¬ k (f m) < k (f x)) (up : ∀ x, i ≤ x → x < m → k (f m) < k (f x)) : Srt k (roF f i m (m + 1)) a (m + 1) := by
  have v1 : ∀ x, x < i → roF f i m (m + 1) x = f x := fun x h => by unfold roF; rw [if_neg (by omega), if_neg (by omega)]
  have v2 : roF f i m (m + 1) i = f m := by unfold roF; rw [if_pos (by omega)]; congr 1; omega
  have v3 : ∀ x, i < x → x ≤ m → roF f i m (m + 1) x = f (x - 1) := fun x h h2 => by unfold roF; rw [if_neg (by omega), if_pos (by omega)]; congr 1; omega
  intro x y h1 h2 h3
  rcases Nat.lt_trichotomy x i with hx | hx | hx
  · rw [v1 x hx]
    rcases Nat.lt_trichotomy y i with hy | hy | hy
    · rw [v1 y hy]; exact hl _ _ h1 h2 (by omega)
    · rw [hy, v2]
      have q := lo x h1 hx
      have q2 := hc x m h1 (by omega) (Nat.le_refl _) (by omega)
      unfold Bef; omega
    · rw [v3 y hy (by omega)]; exact hl _ _ h1 (by omega) (by omega)
  · rw [hx, v2, v3 y (by omega) (by omega)]; exact .inl (up _ (by omega) (by omega))
  · rw [v3 x hx (by omega), v3 y (by omega) (by omega)]; exact hl _ _ (by omega) (by omega) (by omega)
theorem ro_stepL (f : Nat → Int) {a k : Nat} (h : a ≤ k) : upd (upd (roF f a (a + 1) (k + 1)) k (roF f a (a + 1) (k + 1) (k + 1))) (k + 1) (roF f a (a + 1) (k + 1) k) = roF f a (a + 1) (k + 2) := by
  funext j
  unfold upd roF
  (repeat' split) <;> first | rfl | (exfalso; omega) | (congr 1; omega)
theorem ro_stepR (f : Nat → Int) {m k : Nat} (h : k < m) : upd (upd (roF f (k + 1) m (m + 1)) (k + 1) (roF f (k + 1) m (m + 1) k)) k (roF f (k + 1) m (m + 1) (k + 1)) = roF f k m (m + 1) := by
  funext j
  unfold upd roF
  (repeat' split) <;> first | rfl | (exfalso; omega) | (congr 1; omega)
theorem symOneL {H : List Blk} {bi N : Nat} {ty : TypeId} {kd : BK} {c : Cap} {fn : Nat} {cs : List V} {kf : Int → Int} {D : Int → Prop} (hlt : bi < H.length) (hk : kd.mut = true) (hN : N ≤ 1000) (hcs : cs.all V.solid = true)
    (hf : ∀ (g : Nat → Int) (x y : Int), D x → D y → Cal Tryz.prog fn ([.v (.int .i64 x), .v (.int .i64 y)] ++ cs) (H.set bi ⟨rowL .i64 N (g), ty, kd⟩) fun u H' => u = .v (.int .i64 (cmpI (kf x) (kf y))) ∧ H' = H.set bi ⟨rowL .i64 N (g), ty, kd⟩) {f : Nat → Int} {a m b : Nat} {xa xm xb : Int} (hD : ∀ x, x < N → D (f x)) (ha : xa = a) (hm : xm = m) (hb2 : xb = b) (ham : a < m) (hmb : m < b) (hbn : b ≤ N) (hl : Srt kf f a m) (hr : Srt kf f m b) (hc : Crs kf f a m b) (h1 : m = a + 1) :
    Cal Tryz.prog 114 [.s bi 0 N c, .v (.int .i64 xa), .v (.int .i64 xm), .v (.int .i64 xb), .f fn cs] (H.set bi ⟨rowL .i64 N (f), ty, kd⟩) fun u H' => ∃ g, Mix f g a b ∧ Srt kf g a b ∧ u = .t [] ∧ H' = H.set bi ⟨rowL .i64 N (g), ty, kd⟩ := by
  subst ha hm hb2 h1
  have hgs : ∀ b : Blk, (H.set bi b)[bi]? = some b := fun b => List.getElem?_set_self hlt
  have hlive : kd.live = true := by cases kd <;> first | rfl | cases hk
  refine cal_fn 215 mixed Tryz.func114 Tryz.ntmps114 Tryz.results114 rfl rfl rfl fun hw cx hx hq => ?_
  have e0 : (((a + 1 : Nat) : Int) - (a : Int) = 1) = True := eq_true (by omega)
  repeat (first | (simp only [go_sem, Int.reduceLT, Int.reduceLE, Int.reduceEq, Int.reduceToNat, hcs, e0]) | ((with_reducible refine And.intro ?_ ?_); omega) )
  refine WK_for (fun s : Nat × Nat => ⟨[.s bi 0 N c, .v (.int .i64 (a : Int)), .v (.int .i64 ((a + 1 : Nat) : Int)), .v (.int .i64 (b : Int)), .f fn cs, .any, .any, .any, .any, .any, .v (.int .i64 s.1), .v (.int .i64 s.2)] ++ junk 208, H.set bi ⟨rowL .i64 N (f), ty, kd⟩⟩) (fun s => (a + 1 ≤ s.1 ∧ s.1 ≤ s.2 ∧ s.2 ≤ b) ∧ (∀ x, a + 1 ≤ x → x < s.1 → kf (f x) < kf (f a)) ∧ (∀ x, s.2 ≤ x → x < b → ¬ kf (f x) < kf (f a))) (fun s => s.2 - s.1) (a + 1, b) (Weak.slots ?_) ⟨by dsimp only; omega, fun x h1 h2 => by dsimp only at h2; omega, fun x h1 h2 => by dsimp only at h1; omega⟩ fun s hs => ?_
  · simp [go_sem]
  obtain ⟨i, j⟩ := s
  obtain ⟨hij, hlo, hup⟩ := hs
  simp only at hij hlo hup ⊢
  rcases Int.lt_or_le (i : Int) j with hcc | hcc
  · obtain ⟨h, hh⟩ : ∃ h, h = (i + j) / 2 := ⟨_, rfl⟩
    have d1 := half_u i j (by omega)
    have d2 := half_d i j
    rw [← hh] at d2
    have g1 : h < N := by omega
    have g2 : a < N := by omega
    have hcl := hf f (f h) (f a) (hD _ g1) (hD _ g2)
    by_cases e2 : kf (f h) < kf (f a)
    · rw [cmpI_neg e2] at hcl
      repeat (first | (simp only [go_sem, Int.reduceLT, Int.reduceLE, Int.reduceEq, Int.reduceToNat, hcc, hgs, hk, hlive, hcs, List.set_set, rowL_length, d1, d2, rowL_cel _ _ _ g1, rowL_cel _ _ _ g2]) | ((with_reducible refine And.intro ?_ ?_); omega) | ((with_reducible refine isSK ?_); refine call_ret (hcl) ?_ ?_) | ((with_reducible refine isWKr (id := 5) ?_); refine WK_drawUp 5 [[],[],[],[1,2],[1,2,3],[],[],[5,6],[5,6,7],[0,1,2,3,4,5,6,7,8],[0,1,2,3,4,5,6,7,8,9]] 9 (by kernel_rfl) ?_; dsimp only [List.take, List.drop]) )
      refine EK_again (h + 1, j) (Weak.slots ?_) ⟨by dsimp only; omega, fun x h1 h2 => ?_, hup⟩ (by dsimp only; omega)
      · simp [go_sem]
      · have := hr.le (x := x) (y := h) h1 (by dsimp only at h2; omega) (by omega); omega
    · obtain ⟨z, hz⟩ : ∃ z, cmpI (kf (f h)) (kf (f a)) = z := ⟨_, rfl⟩
      have hz0 := cmpI_pos e2
      rw [hz] at hcl hz0
      have hz1 : (z < 0) = False := eq_false (by omega)
      repeat (first | (simp only [go_sem, Int.reduceLT, Int.reduceLE, Int.reduceEq, Int.reduceToNat, hcc, hz1, hgs, hk, hlive, hcs, List.set_set, rowL_length, d1, d2, rowL_cel _ _ _ g1, rowL_cel _ _ _ g2]) | ((with_reducible refine And.intro ?_ ?_); omega) | ((with_reducible refine isSK ?_); refine call_ret (hcl) ?_ ?_) | ((with_reducible refine isWKr (id := 5) ?_); refine WK_drawUp 5 [[],[],[],[1,2],[1,2,3],[],[],[5,6],[5,6,7],[0,1,2,3,4,5,6,7,8],[0,1,2,3,4,5,6,7,8,9]] 9 (by kernel_rfl) ?_; dsimp only [List.take, List.drop]) )
      refine EK_again (i, h) (Weak.slots ?_) ⟨by dsimp only; omega, hlo, fun x h1 h2 => ?_⟩ (by dsimp only; omega)
      · simp [go_sem]
      · have := hr.le (x := h) (y := x) (by omega) h1 h2; omega
  · obtain rfl : i = j := by omega
    have hfin := one_left hr hc (i := i) (by omega) hlo hup
    repeat ((simp only [go_sem, Int.reduceLT, Int.reduceLE, Int.reduceEq, Int.reduceToNat, Int.not_lt.2 hcc, hcs]) )
    refine WK_for (fun k : Nat => ⟨[.s bi 0 N c, .v (.int .i64 (a : Int)), .v (.int .i64 ((a + 1 : Nat) : Int)), .v (.int .i64 (b : Int)), .f fn cs, .any, .any, .any, .any, .any, .v (.int .i64 i), .any, .any, .v (.int .i64 k)] ++ junk 206, H.set bi ⟨rowL .i64 N (roF f a (a + 1) (k + 1)), ty, kd⟩⟩) (fun k => a ≤ k ∧ k + 1 ≤ i) (fun k => i - k) a ?_ ⟨Nat.le_refl _, by omega⟩ fun k hkk => ?_
    · rw [roF_id f (by omega) (.inr rfl)]; exact Weak.slots (by simp [go_sem])
    rcases Int.lt_or_le (k : Int) ((i : Int) - 1) with hc3 | hc3
    · have g1 : k < N := by omega
      have g2 : k + 1 < N := by omega
      have t1 : ((k : Int) + 1).toNat = k + 1 := by omega
      have hs := ro_stepL f hkk.1
      repeat (first | (simp only [go_sem, Int.reduceLT, Int.reduceLE, Int.reduceEq, Int.reduceToNat, hc3, hgs, hk, hlive, hcs, List.set_set, rowL_length, t1, rowL_cel _ _ _ g1, rowL_cel _ _ _ g2, rowL_wr _ _ _ g1, rowL_wr _ _ _ g2]) | ((with_reducible refine And.intro ?_ ?_); omega) | ((with_reducible refine isWKr (id := 11) ?_); refine WK_drawAt 11 [[],[],[],[],[3],[],[],[6],[5,6,7],[5,6,7,8],[],[],[10,11],[10,11,12],[0,1,5,6,7,8,9,10,11,12,13],[0,1,5,6,7,8,9,10,11,12,13,14],[0,1,2,3,4,5,6,7,8,9,10,11,12,13,14,15],[0,1,2,3,4,5,6,7,8,9,10,11,12,13,14,15,16]] (by kernel_rfl) ?_) )
      refine EK_again (k + 1) ?_ ⟨by omega, by omega⟩ (by omega)
      rw [hs]
      exact Weak.slots (by simp [go_sem] <;> omega)
    · obtain rfl : i = k + 1 := by omega
      repeat (first | (simp only [go_sem, Int.reduceLT, Int.reduceLE, Int.reduceEq, Int.reduceToNat, Int.not_lt.2 hc3]) | ((with_reducible refine And.intro ?_ ?_); omega) )
      refine ret_at hq _ (.inl rfl) (by simp) ?_
      simp only [go_sem]
      exact ⟨_, (Mix.rot f (by omega)).wide (Nat.le_refl _) (by omega), hfin, rfl⟩
theorem symOneR {H : List Blk} {bi N : Nat} {ty : TypeId} {kd : BK} {c : Cap} {fn : Nat} {cs : List V} {kf : Int → Int} {D : Int → Prop} (hlt : bi < H.length) (hk : kd.mut = true) (hN : N ≤ 1000) (hcs : cs.all V.solid = true)
    (hf : ∀ (g : Nat → Int) (x y : Int), D x → D y → Cal Tryz.prog fn ([.v (.int .i64 x), .v (.int .i64 y)] ++ cs) (H.set bi ⟨rowL .i64 N (g), ty, kd⟩) fun u H' => u = .v (.int .i64 (cmpI (kf x) (kf y))) ∧ H' = H.set bi ⟨rowL .i64 N (g), ty, kd⟩) {f : Nat → Int} {a m b : Nat} {xa xm xb : Int} (hD : ∀ x, x < N → D (f x)) (ha : xa = a) (hm : xm = m) (hb2 : xb = b) (ham : a < m) (hmb : m < b) (hbn : b ≤ N) (hl : Srt kf f a m) (hr : Srt kf f m b) (hc : Crs kf f a m b) (h1 : ¬ m = a + 1) (h2 : b = m + 1) :
    Cal Tryz.prog 114 [.s bi 0 N c, .v (.int .i64 xa), .v (.int .i64 xm), .v (.int .i64 xb), .f fn cs] (H.set bi ⟨rowL .i64 N (f), ty, kd⟩) fun u H' => ∃ g, Mix f g a b ∧ Srt kf g a b ∧ u = .t [] ∧ H' = H.set bi ⟨rowL .i64 N (g), ty, kd⟩ := by
  subst ha hm hb2 h2
  have hgs : ∀ b : Blk, (H.set bi b)[bi]? = some b := fun b => List.getElem?_set_self hlt
  have hlive : kd.live = true := by cases kd <;> first | rfl | cases hk
  refine cal_fn 215 mixed Tryz.func114 Tryz.ntmps114 Tryz.results114 rfl rfl rfl fun hw cx hx hq => ?_
  have e0 : ((m : Int) - (a : Int) = 1) = False := eq_false (by omega)
  have e00 : (((m + 1 : Nat) : Int) - (m : Int) = 1) = True := eq_true (by omega)
  repeat (first | (simp only [go_sem, Int.reduceLT, Int.reduceLE, Int.reduceEq, Int.reduceToNat, hcs, e0, e00]) | ((with_reducible refine And.intro ?_ ?_); omega) )
  refine WK_for (fun s : Nat × Nat => ⟨[.s bi 0 N c, .v (.int .i64 (a : Int)), .v (.int .i64 (m : Int)), .v (.int .i64 ((m + 1 : Nat) : Int)), .f fn cs, .any, .any, .any, .any, .any, .any, .any, .any, .any, .v (.int .i64 s.1), .v (.int .i64 s.2)] ++ junk 204, H.set bi ⟨rowL .i64 N (f), ty, kd⟩⟩) (fun s => (a ≤ s.1 ∧ s.1 ≤ s.2 ∧ s.2 ≤ m) ∧ (∀ x, a ≤ x → x < s.1 → ¬ kf (f m) < kf (f x)) ∧ (∀ x, s.2 ≤ x → x < m → kf (f m) < kf (f x))) (fun s => s.2 - s.1) (a, m) (Weak.slots ?_) ⟨by dsimp only; omega, fun x h1 h2 => by dsimp only at h2; omega, fun x h1 h2 => by dsimp only at h1; omega⟩ fun s hs => ?_
  · simp [go_sem]
  obtain ⟨i, j⟩ := s
  obtain ⟨hij, hlo, hup⟩ := hs
  simp only at hij hlo hup ⊢
  rcases Int.lt_or_le (i : Int) j with hcc | hcc
  · obtain ⟨h, hh⟩ : ∃ h, h = (i + j) / 2 := ⟨_, rfl⟩
    have d1 := half_u i j (by omega)
    have d2 := half_d i j
    rw [← hh] at d2
    have g1 : h < N := by omega
    have g2 : m < N := by omega
    have hcl := hf f (f m) (f h) (hD _ g2) (hD _ g1)
    by_cases e2 : kf (f m) < kf (f h)
    · rw [cmpI_neg e2] at hcl
      repeat (first | (simp only [go_sem, Int.reduceLT, Int.reduceLE, Int.reduceEq, Int.reduceToNat, hcc, hgs, hk, hlive, hcs, List.set_set, rowL_length, d1, d2, rowL_cel _ _ _ g1, rowL_cel _ _ _ g2]) | ((with_reducible refine And.intro ?_ ?_); omega) | ((with_reducible refine isSK ?_); refine call_ret (hcl) ?_ ?_) | ((with_reducible refine isWKr (id := 17) ?_); refine WK_drawUp 17 [[],[],[],[1,2],[1,2,3],[],[],[5,6],[5,6,7],[0,1,2,3,4,5,6,7,8],[0,1,2,3,4,5,6,7,8,9],[0,1,2,3,4,5,6,7,8,9,10]] 9 (by kernel_rfl) ?_; dsimp only [List.take, List.drop]) )
      refine EK_again (i, h) (Weak.slots ?_) ⟨by dsimp only; omega, hlo, fun x h1 h2 => ?_⟩ (by dsimp only; omega)
      · simp [go_sem]
      · have := hl.le (x := h) (y := x) (by omega) h1 h2; omega
    · obtain ⟨z, hz⟩ : ∃ z, cmpI (kf (f m)) (kf (f h)) = z := ⟨_, rfl⟩
      have hz0 := cmpI_pos e2
      rw [hz] at hcl hz0
      have hz1 : (z < 0) = False := eq_false (by omega)
      repeat (first | (simp only [go_sem, Int.reduceLT, Int.reduceLE, Int.reduceEq, Int.reduceToNat, hcc, hz1, hgs, hk, hlive, hcs, List.set_set, rowL_length, d1, d2, rowL_cel _ _ _ g1, rowL_cel _ _ _ g2]) | ((with_reducible refine And.intro ?_ ?_); omega) | ((with_reducible refine isSK ?_); refine call_ret (hcl) ?_ ?_) | ((with_reducible refine isWKr (id := 17) ?_); refine WK_drawUp 17 [[],[],[],[1,2],[1,2,3],[],[],[5,6],[5,6,7],[0,1,2,3,4,5,6,7,8],[0,1,2,3,4,5,6,7,8,9],[0,1,2,3,4,5,6,7,8,9,10]] 9 (by kernel_rfl) ?_; dsimp only [List.take, List.drop]) )
      refine EK_again (h + 1, j) (Weak.slots ?_) ⟨by dsimp only; omega, fun x h1 h2 => ?_, hup⟩ (by dsimp only; omega)
      · simp [go_sem]
      · have := hl.le (x := x) (y := h) h1 (by dsimp only at h2; omega) (by omega); omega
  · obtain rfl : i = j := by omega
    have hfin := one_right hl hc (i := i) (by omega) hlo hup
    repeat ((simp only [go_sem, Int.reduceLT, Int.reduceLE, Int.reduceEq, Int.reduceToNat, Int.not_lt.2 hcc, hcs]) )
    refine WK_for (fun k : Nat => ⟨[.s bi 0 N c, .v (.int .i64 (a : Int)), .v (.int .i64 (m : Int)), .v (.int .i64 ((m + 1 : Nat) : Int)), .f fn cs, .any, .any, .any, .any, .any, .any, .any, .any, .any, .v (.int .i64 i), .any, .any, .v (.int .i64 k)] ++ junk 202, H.set bi ⟨rowL .i64 N (roF f k m (m + 1)), ty, kd⟩⟩) (fun k => i ≤ k ∧ k ≤ m) (fun k => k) m ?_ ⟨by omega, Nat.le_refl _⟩ fun k hkk => ?_
    · rw [roF_id f (by omega) (.inl rfl)]; exact Weak.slots (by simp [go_sem])
    rcases Int.lt_or_le (i : Int) k with hc3 | hc3
    · obtain ⟨k, rfl⟩ : ∃ k', k = k' + 1 := ⟨k - 1, by omega⟩
      have g1 : k < N := by omega
      have g2 : k + 1 < N := by omega
      have t1 : (((k + 1 : Nat) : Int) - 1).toNat = k := by omega
      have t2 : ((k + 1 : Nat) : Int).toNat = k + 1 := by omega
      have hs := ro_stepR f (m := m) (k := k) (by omega)
      repeat (first | (simp only [go_sem, Int.reduceLT, Int.reduceLE, Int.reduceEq, Int.reduceToNat, hc3, hgs, hk, hlive, hcs, List.set_set, rowL_length, t1, t2, rowL_cel _ _ _ g1, rowL_cel _ _ _ g2, rowL_wr _ _ _ g1, rowL_wr _ _ _ g2]) | ((with_reducible refine And.intro ?_ ?_); omega) | ((with_reducible refine isWKr (id := 23) ?_); refine WK_drawAt 23 [[],[],[],[],[3],[],[],[6],[5,6,7],[5,6,7,8],[],[],[10,11],[10,11,12],[0,1,5,6,7,8,9,10,11,12,13],[0,1,5,6,7,8,9,10,11,12,13,14],[0,1,2,3,4,5,6,7,8,9,10,11,12,13,14,15],[0,1,2,3,4,5,6,7,8,9,10,11,12,13,14,15,16]] (by kernel_rfl) ?_) )
      refine EK_again k ?_ ⟨by omega, by omega⟩ (by omega)
      rw [hs]
      exact Weak.slots (by simp [go_sem] <;> omega)
    · obtain rfl : i = k := by omega
      repeat ((simp only [go_sem, Int.reduceLT, Int.reduceLE, Int.reduceEq, Int.reduceToNat, Int.not_lt.2 hc3]) )
      refine ret_at hq _ (.inl rfl) (by simp) ?_
      simp only [go_sem]
      exact ⟨_, (Mix.rot f (by omega)).wide (by omega) (Nat.le_refl _), hfin, rfl⟩
end Go.Proofs.YtaekjojblkhfdaaGreatDoor
