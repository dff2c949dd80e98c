/- Contracts of functions of the translated program, by the walk. -/
import Derived.Test.YtjkkallcgplgmaaNp5
set_option linter.unusedVariables false
set_option linter.unusedSimpArgs false
set_option maxRecDepth 8000
set_option maxHeartbeats 4000000
namespace Go.Proofs.Ytjkkallcgplgmaa
open Go Go.Sx
theorem insertion2 {H : List Blk} {bi N : Nat} {ty : TypeId} {kd : BK} {c : Cap} {fn : Nat} {cs : List V} {kf : Int → Int} {D : Int → Prop} (hlt : bi < H.length) (hk : kd.mut = true) (hN : N ≤ 1000) (hcs : cs.all V.solid = true)
    (hf : ∀ (g : Nat → Int) (x y : Int), D x → D y → Cal Try.prog fn ([.v (.int .i64 x), .v (.int .i64 y)] ++ cs) (H.set bi ⟨rowL .i64 N (g), ty, kd⟩) fun u H' => u = .v (.int .i64 (cmpI (kf x) (kf y))) ∧ H' = H.set bi ⟨rowL .i64 N (g), ty, kd⟩) {f : Nat → Int} {a b : Nat} {xa xb : Int} (hD : ∀ x, x < N → D (f x)) (ha : xa = a) (hb2 : xb = b) (hab : a ≤ b) (hbn : b ≤ N) (hinc : ∀ x y, a ≤ x → x < y → y < b → f x < f y) :
    Cal Try.prog 138 [.s bi 0 N c, .v (.int .i64 xa), .v (.int .i64 xb), .f fn cs] (H.set bi ⟨rowL .i64 N (f), ty, kd⟩) fun u H' => ∃ g, Mix f g a b ∧ Srt kf g a b ∧ u = .t [] ∧ H' = H.set bi ⟨rowL .i64 N (g), ty, kd⟩ := by
  have := insertion (H := H.set bi ⟨rowL .i64 N (f), ty, kd⟩) (c := c) (fn := fn) (cs := cs) (kf := kf) (D := D) (a := a) (b := b) (xa := xa) (xb := xb) (List.getElem?_set_self hlt) hk hN hcs (fun g x y h1 h2 => by simpa only [List.set_set] using hf g x y h1 h2) hD ha hb2 hab hbn hinc
  simpa only [List.set_set] using this
theorem stTail {H : List Blk} {cx : Cx} {g3 g4 g5 g7 g8 g9 g10 g11 g12 g13 g14 g15 g16 g17 g18 g19 g20 g21 g22 g23 g24 g25 g26 g27 g28 g29 g30 g31 g32 g33 g34 g35 g36 g37 g38 g39 g40 g41 g42 g43 g44 g45 g46 g47 g48 g49 g50 g51 g52 g53 g54 g55 g56 g57 g58 g59 g60 g61 g62 : V} {bi N : Nat} {ty : TypeId} {kd : BK} {c : Cap} {fn : Nat} {cs : List V} {kf : Int → Int} {D : Int → Prop} (hlt : bi < H.length) (hk : kd.mut = true) (hN : N ≤ 1000) (hcs : cs.all V.solid = true)
    (hf : ∀ (g : Nat → Int) (x y : Int), D x → D y → Cal Try.prog fn ([.v (.int .i64 x), .v (.int .i64 y)] ++ cs) (H.set bi ⟨rowL .i64 N (g), ty, kd⟩) fun u H' => u = .v (.int .i64 (cmpI (kf x) (kf y))) ∧ H' = H.set bi ⟨rowL .i64 N (g), ty, kd⟩) {g1 : Nat → Int} {R : V → List Blk → Prop} {n1 : Nat} (hD : ∀ x, x < N → D (g1 x)) (h40 : N ≤ 39) (hl : Srt kf g1 0 (min 20 N)) (hr : Srt kf g1 20 N) (hc : Crs kf g1 0 20 N)
    (hn : n1 = H.length) (hR : ∀ g, Mix g1 g 0 N → Srt kf g 0 N → R (.t []) (H.set bi ⟨rowL .i64 N (g), ty, kd⟩)) (hq : ∀ e s, fin Try.prog n1 [] R e s → cx.Q e s) :
    WK Try.prog cx [] (restC 4 (Try.f122.body.getD .skip)) ⟨[.s bi 0 N c, .v (.int .i64 (N : Int)), .f fn cs, g3, g4, g5, .v (.int .i64 20), g7, g8, g9, g10, g11, g12, g13, g14, g15, g16, g17, g18, g19, g20, g21, g22, g23, g24, g25, g26, g27, g28, g29, g30, g31, g32, g33, g34, g35, g36, g37, g38, g39, g40, g41, g42, g43, g44, g45, g46, g47, g48, g49, g50, g51, g52, g53, g54, g55, g56, g57, g58, g59, g60, g61, g62], H.set bi ⟨rowL .i64 N (g1), ty, kd⟩⟩ := by
  subst hn
  have hgs : ∀ b : Blk, (H.set bi b)[bi]? = some b := fun b => List.getElem?_set_self hlt
  have hlive : kd.live = true := by cases kd <;> first | rfl | cases hk
  have hb0 : Try.f122.body = some _ := rfl
  rw [hb0]
  simp only [Option.getD_some, restC]
  repeat (first | (simp only [go_sem, Int.reduceLT, Int.reduceLE, Int.reduceEq, Int.reduceToNat, hcs]) | ((with_reducible refine And.intro ?_ ?_); omega) | ((with_reducible refine And.intro ?_ ?_); first | (with_reducible rfl) | assumption | (simp only [go_sem]; done)))
  refine WK_for (fun s : Nat × (Nat → Int) => ⟨[.s bi 0 N c, .v (.int .i64 N), .f fn cs, .any, .any, .any, .v (.int .i64 s.1)] ++ junk 56, H.set bi ⟨rowL .i64 N (s.2), ty, kd⟩⟩) (fun s => (s.1 = 20 ∧ s.2 = g1) ∨ (s.1 = 40 ∧ Mix g1 s.2 0 N ∧ Srt kf s.2 0 N)) (fun s => 40 - s.1) (20, g1) (Weak.slots ?_) (.inl ⟨rfl, rfl⟩) fun s hs => ?_
  · simp [go_sem]
  obtain ⟨bs, g⟩ := s
  simp only at hs ⊢
  rcases hs with ⟨rfl, rfl⟩ | ⟨rfl, hm, hs⟩
  · by_cases h20 : 20 < N
    · have e1 : (((20 : Nat) : Int) < (N : Int)) = True := eq_true (by omega)
      repeat (first | (simp only [go_sem, Int.reduceLT, Int.reduceLE, Int.reduceEq, Int.reduceToNat, hcs, e1]) | ((with_reducible refine And.intro ?_ ?_); omega) | ((with_reducible refine And.intro ?_ ?_); first | (with_reducible rfl) | assumption | (simp only [go_sem]; done)))
      refine WK_for (fun s : Nat => ⟨[.s bi 0 N c, .v (.int .i64 N), .f fn cs, .any, .any, .any, .v (.int .i64 ((20 : Nat) : Int)), .v (.int .i64 0), .v (.int .i64 40)] ++ junk 54, H.set bi ⟨rowL .i64 N (g), ty, kd⟩⟩) (fun _ => True) (fun _ => 0) 0 (Weak.slots ?_) trivial fun s _ => ?_
      · simp [go_sem]
      have e2 : ((40 : Int) ≤ (N : Int)) = False := eq_false (by omega)
      have e3 : ((20 : Int) < (N : Int)) = True := eq_true (by omega)
      have e5 : (0 : Int) + ((20 : Nat) : Int) = ((20 : Nat) : Int) := by omega
      repeat (first | (simp only [go_sem, Int.reduceLT, Int.reduceLE, Int.reduceEq, Int.reduceToNat, hcs, e1, e2, e3, e5]) | ((with_reducible refine And.intro ?_ ?_); omega) | ((with_reducible refine And.intro ?_ ?_); first | (with_reducible rfl) | assumption | (simp only [go_sem]; done)))
      refine call_ex (symMerge hlt hk hN hcs hf N (f := g) (a := 0) (m := 20) (b := N) (by omega) hD rfl rfl rfl (by omega) h20 (Nat.le_refl _) (by rw [Nat.min_eq_left (by omega)] at hl; exact hl) hr hc) (by simp only [go_sem, hcs]) ?_
      rintro _ _ ⟨g2, mx2, s2, rfl, rfl⟩
      repeat (first | (simp only [go_sem, Int.reduceLT, Int.reduceLE, Int.reduceEq, Int.reduceToNat, hcs]) | ((with_reducible refine And.intro ?_ ?_); omega) | ((with_reducible refine And.intro ?_ ?_); first | (with_reducible rfl) | assumption | (simp only [go_sem]; done)))
      refine EK_again (40, g2) (Weak.slots ?_) (.inr ⟨rfl, mx2, s2⟩) (by dsimp only; omega)
      simp [go_sem]
    · have e1 : (((20 : Nat) : Int) < (N : Int)) = False := eq_false (by omega)
      repeat (first | (simp only [go_sem, Int.reduceLT, Int.reduceLE, Int.reduceEq, Int.reduceToNat, hcs, e1]) | ((with_reducible refine And.intro ?_ ?_); omega) | ((with_reducible refine And.intro ?_ ?_); first | (with_reducible rfl) | assumption | (simp only [go_sem]; done)))
      refine ret_at hq _ (.inr rfl) (by simp) ?_
      simp only [go_sem]
      rw [Nat.min_eq_right (by omega)] at hl
      exact hR _ (Mix.refl _ _ _) hl
  · have e1 : (((40 : Nat) : Int) < (N : Int)) = False := eq_false (by omega)
    repeat (first | (simp only [go_sem, Int.reduceLT, Int.reduceLE, Int.reduceEq, Int.reduceToNat, hcs, e1]) | ((with_reducible refine And.intro ?_ ?_); omega) | ((with_reducible refine And.intro ?_ ?_); first | (with_reducible rfl) | assumption | (simp only [go_sem]; done)))
    refine ret_at hq _ (.inr rfl) (by simp) ?_
    simp only [go_sem]
    exact hR _ hm hs
theorem stable {H : List Blk} {bi N : Nat} {ty : TypeId} {kd : BK} {c : Cap} {fn : Nat} {cs : List V} {kf : Int → Int} {D : Int → Prop} (hlt : bi < H.length) (hk : kd.mut = true) (hN : N ≤ 1000) (hcs : cs.all V.solid = true)
    (hf : ∀ (g : Nat → Int) (x y : Int), D x → D y → Cal Try.prog fn ([.v (.int .i64 x), .v (.int .i64 y)] ++ cs) (H.set bi ⟨rowL .i64 N (g), ty, kd⟩) fun u H' => u = .v (.int .i64 (cmpI (kf x) (kf y))) ∧ H' = H.set bi ⟨rowL .i64 N (g), ty, kd⟩) {f : Nat → Int} (hD : ∀ x, x < N → D (f x)) (h40 : N ≤ 39) (hinc : ∀ x y, x < y → y < N → f x < f y) :
    Cal Try.prog 122 [.s bi 0 N c, .v (.int .i64 N), .f fn cs] (H.set bi ⟨rowL .i64 N (f), ty, kd⟩) fun u H' => ∃ g, Mix f g 0 N ∧ Srt kf g 0 N ∧ u = .t [] ∧ H' = H.set bi ⟨rowL .i64 N (g), ty, kd⟩ := by
  have hgs : ∀ b : Blk, (H.set bi b)[bi]? = some b := fun b => List.getElem?_set_self hlt
  have hlive : kd.live = true := by cases kd <;> first | rfl | cases hk
  refine cal_fn 60 mixed Try.func122 Try.ntmps122 Try.results122 rfl rfl rfl fun hw cx hx hq => ?_
  obtain ⟨T, hT⟩ : ∃ T, T = restC 4 (Try.f122.body.getD .skip) := ⟨_, rfl⟩
  refine WK_cut 4 (T := T) (by rw [hT]; rfl) ?_
  simp only [graftC]
  repeat (first | (simp only [go_sem, Int.reduceLT, Int.reduceLE, Int.reduceEq, Int.reduceToNat, hcs]) | ((with_reducible refine And.intro ?_ ?_); omega) | ((with_reducible refine And.intro ?_ ?_); first | (with_reducible rfl) | assumption | (simp only [go_sem]; done)))
  refine WK_for (fun s : (Nat × Nat) × (Nat → Int) => ⟨[.s bi 0 N c, .v (.int .i64 N), .f fn cs, .any, .any, .any, .v (.int .i64 20), .v (.int .i64 s.1.1), .v (.int .i64 s.1.2)] ++ junk 54, H.set bi ⟨rowL .i64 N (s.2), ty, kd⟩⟩) (fun s => ((s.1.1 = 0 ∧ s.1.2 = 20) ∧ s.2 = f) ∨ ((s.1.1 = 20 ∧ s.1.2 = 40) ∧ 20 ≤ N ∧ Mix f s.2 0 20 ∧ Srt kf s.2 0 20)) (fun s => 40 - s.1.2) ((0, 20), f) (Weak.slots ?_) (.inl ⟨⟨rfl, rfl⟩, rfl⟩) fun s hs => ?_
  · simp [go_sem]
  obtain ⟨⟨a, b⟩, g⟩ := s
  simp only at hs ⊢
  have hnl : (H.set bi ⟨rowL .i64 N (f), ty, kd⟩).length = H.length := by simp
  rcases hs with ⟨⟨rfl, rfl⟩, rfl⟩ | ⟨⟨rfl, rfl⟩, h20, hm, hs⟩
  · by_cases h20 : 20 ≤ N
    · have e1 : (((20 : Nat) : Int) ≤ (N : Int)) = True := eq_true (by omega)
      repeat (first | (simp only [go_sem, Int.reduceLT, Int.reduceLE, Int.reduceEq, Int.reduceToNat, hcs, e1]) | ((with_reducible refine And.intro ?_ ?_); omega) | ((with_reducible refine And.intro ?_ ?_); first | (with_reducible rfl) | assumption | (simp only [go_sem]; done)))
      refine call_ex (insertion2 hlt hk hN hcs hf (f := g) (a := 0) (b := 20) hD rfl rfl (by omega) h20 (fun x y _ h2 h3 => hinc x y h2 (by omega))) (by simp only [go_sem, hcs]) ?_
      rintro _ _ ⟨g2, mx2, s2, rfl, rfl⟩
      repeat (first | (simp only [go_sem, Int.reduceLT, Int.reduceLE, Int.reduceEq, Int.reduceToNat, hcs]) | ((with_reducible refine And.intro ?_ ?_); omega) | ((with_reducible refine And.intro ?_ ?_); first | (with_reducible rfl) | assumption | (simp only [go_sem]; done)))
      refine EK_again ((20, 40), g2) (Weak.slots ?_) (.inr ⟨⟨rfl, rfl⟩, h20, mx2, s2⟩) (by dsimp only; omega)
      simp [go_sem]
    · have e1 : (((20 : Nat) : Int) ≤ (N : Int)) = False := eq_false (by omega)
      repeat (first | (simp only [go_sem, Int.reduceLT, Int.reduceLE, Int.reduceEq, Int.reduceToNat, hcs, e1]) | ((with_reducible refine And.intro ?_ ?_); omega) | ((with_reducible refine And.intro ?_ ?_); first | (with_reducible rfl) | assumption | (simp only [go_sem]; done)))
      refine call_ex (insertion2 hlt hk hN hcs hf (f := g) (a := 0) (b := N) hD rfl rfl (by omega) (Nat.le_refl _) (fun x y _ h2 h3 => hinc x y h2 h3)) (by simp only [go_sem, hcs]) ?_
      rintro _ _ ⟨g2, mx2, s2, rfl, rfl⟩
      repeat (first | (simp only [go_sem, Int.reduceLT, Int.reduceLE, Int.reduceEq, Int.reduceToNat, hcs]) | ((with_reducible refine And.intro ?_ ?_); omega) | ((with_reducible refine And.intro ?_ ?_); first | (with_reducible rfl) | assumption | (simp only [go_sem]; done)))
      rw [hT]
      exact stTail hlt hk hN hcs hf (mx2.dom (Nat.le_refl _) hD) h40 (s2.sub (Nat.le_refl _) (by omega)) (fun x y _ _ _ => by omega) (fun x y _ _ _ _ => by omega) hnl (fun g3 m3 s3 => ⟨g3, mx2.trans m3, s3, rfl, rfl⟩) hq
  · have e1 : (((40 : Nat) : Int) ≤ (N : Int)) = False := eq_false (by omega)
    repeat (first | (simp only [go_sem, Int.reduceLT, Int.reduceLE, Int.reduceEq, Int.reduceToNat, hcs, e1]) | ((with_reducible refine And.intro ?_ ?_); omega) | ((with_reducible refine And.intro ?_ ?_); first | (with_reducible rfl) | assumption | (simp only [go_sem]; done)))
    refine call_ex (insertion2 hlt hk hN hcs hf (f := g) (a := 20) (b := N) (hm.dom h20 hD) rfl rfl h20 (Nat.le_refl _) (fun x y h1 h2 h3 => by rw [hm.out x (by omega), hm.out y (by omega)]; exact hinc x y h2 h3)) (by simp only [go_sem, hcs]) ?_
    rintro _ _ ⟨g2, mx2, s2, rfl, rfl⟩
    repeat (first | (simp only [go_sem, Int.reduceLT, Int.reduceLE, Int.reduceEq, Int.reduceToNat, hcs]) | ((with_reducible refine And.intro ?_ ?_); omega) | ((with_reducible refine And.intro ?_ ?_); first | (with_reducible rfl) | assumption | (simp only [go_sem]; done)))
    rw [hT]
    have mx : Mix f g2 0 N := (hm.wide (Nat.le_refl _) h20).trans (mx2.wide (by omega) (Nat.le_refl _))
    have o2 : ∀ x, x < 20 → g2 x = g x := fun x h => mx2.out x (.inl h)
    refine stTail hlt hk hN hcs hf (mx.dom (Nat.le_refl _) hD) h40 ?_ s2 (fun x y _ h2 h3 h4 _ => ?_) hnl (fun g3 m3 s3 => ⟨g3, mx.trans m3, s3, rfl, rfl⟩) hq
    · rw [Nat.min_eq_left h20]; exact hs.congr fun x _ h => o2 x h
    · obtain ⟨u, hu, eu⟩ := hm.to x (by omega) h2
      obtain ⟨v, hv, ev⟩ := mx2.to y h3 h4
      rw [o2 x h2, eu, ev, hm.out v (.inr hv.1)]
      exact hinc u v (by omega) hv.2
theorem sortStable {H : List Blk} {bi N : Nat} {ty : TypeId} {kd : BK} {c : Cap} {fn : Nat} {cs : List V} {kf : Int → Int} {D : Int → Prop} (hlt : bi < H.length) (hk : kd.mut = true) (hN : N ≤ 1000) (hcs : cs.all V.solid = true)
    (hf : ∀ (g : Nat → Int) (x y : Int), D x → D y → Cal Try.prog fn ([.v (.int .i64 x), .v (.int .i64 y)] ++ cs) (H.set bi ⟨rowL .i64 N (g), ty, kd⟩) fun u H' => u = .v (.int .i64 (cmpI (kf x) (kf y))) ∧ H' = H.set bi ⟨rowL .i64 N (g), ty, kd⟩) {f : Nat → Int} (hD : ∀ x, x < N → D (f x)) (h40 : N ≤ 39) (hinc : ∀ x y, x < y → y < N → f x < f y) :
    Cal Try.prog 99 [.s bi 0 N c, .f fn cs] (H.set bi ⟨rowL .i64 N (f), ty, kd⟩) fun u H' => ∃ g, Mix f g 0 N ∧ Srt kf g 0 N ∧ u = .t [] ∧ H' = H.set bi ⟨rowL .i64 N (g), ty, kd⟩ := by
  have hgs : ∀ b : Blk, (H.set bi b)[bi]? = some b := fun b => List.getElem?_set_self hlt
  have hlive : kd.live = true := by cases kd <;> first | rfl | cases hk
  refine cal_fn 7 mixed Try.func99 Try.ntmps99 Try.results99 rfl rfl rfl fun hw cx hx hq => ?_
  repeat (first | (simp only [go_sem, Int.reduceLT, Int.reduceLE, Int.reduceEq, Int.reduceToNat, hcs]) | ((with_reducible refine And.intro ?_ ?_); omega) | ((with_reducible refine And.intro ?_ ?_); first | (with_reducible rfl) | assumption | (simp only [go_sem]; done)))
  refine call_ex (stable hlt hk hN hcs hf hD h40 hinc) (by simp only [go_sem, hcs]) ?_
  rintro _ _ ⟨g2, mx2, s2, rfl, rfl⟩
  repeat (first | (simp only [go_sem, Int.reduceLT, Int.reduceLE, Int.reduceEq, Int.reduceToNat, hcs]) | ((with_reducible refine And.intro ?_ ?_); omega) | ((with_reducible refine And.intro ?_ ?_); first | (with_reducible rfl) | assumption | (simp only [go_sem]; done)))
  refine ret_at hq _ (.inr rfl) (by simp) ?_
  simp only [go_sem]
  exact ⟨g2, mx2, s2, rfl⟩
end Go.Proofs.Ytjkkallcgplgmaa

