/- Contracts of functions of the translated program, by the walk. -/
import Derived.Test.YtaekjojblkhfdaaGreatDoorNp5
import Derived.Test.YtaekjojblkhfdaaGreatDoorBo2
import Derived.Test.YtaekjojblkhfdaaGreatDoorBo1
import Derived.Test.YtaekjojblkhfdaaGreatDoorPo1
import Derived.Test.YtaekjojblkhfdaaGreatDoorDr1
import Derived.Test.YtaekjojblkhfdaaGreatDoorNp2
import Derived.Shelf.Strings.OnBuilder
import Derived.Test.YtaekjojblkhfdaaGreatDoorProg
import Derived.KernelRfl
import Derived.Test.YtaekjojblkhfdaaGreatDoorT1
import Derived.Shelf.Strconv.Itoa4
import Derived.Test.YtaekjojblkhfdaaGreatDoorLD
import Derived.Test.YtaekjojblkhfdaaGreatDoorLA
set_option linter.unusedVariables false
set_option linter.unusedSimpArgs false
set_option maxRecDepth 8000
set_option maxHeartbeats 16000000
namespace Go.Proofs.YtaekjojblkhfdaaGreatDoor
open Go Go.Sx
theorem insertion2 {H : List Blk} {bi N : Nat} {ty : TypeId} {kd : BK} {c : Cap} {fn : Nat} {cs : List V} {kf : Int → Int} {D : Int → Prop} (hlt : bi < H.length) (hk : kd.mut = true) (hN : N ≤ 1000) (hcs : cs.all V.solid = true)
    (hf : ∀ (g : Nat → Int) (x y : Int), D x → D y → Cal Tryz.prog fn ([.v (.int .i64 x), .v (.int .i64 y)] ++ cs) (H.set bi ⟨rowL .i64 N (g), ty, kd⟩) fun u H' => u = .v (.int .i64 (cmpI (kf x) (kf y))) ∧ H' = H.set bi ⟨rowL .i64 N (g), ty, kd⟩) {f : Nat → Int} {a b : Nat} {xa xb : Int} (hD : ∀ x, x < N → D (f x)) (ha : xa = a) (hb2 : xb = b) (hab : a ≤ b) (hbn : b ≤ N) (hinc : ∀ x y, a ≤ x → x < y → y < b → f x < f y) :
    Cal Tryz.prog 113 [.s bi 0 N c, .v (.int .i64 xa), .v (.int .i64 xb), .f fn cs] (H.set bi ⟨rowL .i64 N (f), ty, kd⟩) fun u H' => ∃ g, Mix f g a b ∧ Srt kf g a b ∧ u = .t [] ∧ H' = H.set bi ⟨rowL .i64 N (g), ty, kd⟩ := by
  have := insertion (H := H.set bi ⟨rowL .i64 N (f), ty, kd⟩) (c := c) (fn := fn) (cs := cs) (kf := kf) (D := D) (a := a) (b := b) (xa := xa) (xb := xb) (List.getElem?_set_self hlt) hk hN hcs (fun g x y h1 h2 => by simpa only [List.set_set] using hf g x y h1 h2) hD ha hb2 hab hbn hinc
  simpa only [List.set_set] using this
theorem stTail {H : List Blk} {cx : Cx} {g3 g4 g5 g7 g8 g9 g10 g11 g12 g13 g14 g15 g16 g17 g18 g19 g20 g21 g22 g23 g24 g25 g26 g27 g28 g29 g30 g31 g32 g33 g34 g35 g36 g37 g38 g39 g40 g41 g42 g43 g44 g45 g46 g47 g48 g49 g50 g51 g52 g53 g54 g55 g56 g57 g58 g59 g60 g61 g62 : V} {bi N : Nat} {ty : TypeId} {kd : BK} {c : Cap} {fn : Nat} {cs : List V} {kf : Int → Int} {D : Int → Prop} (hlt : bi < H.length) (hk : kd.mut = true) (hN : N ≤ 1000) (hcs : cs.all V.solid = true)
    (hf : ∀ (g : Nat → Int) (x y : Int), D x → D y → Cal Tryz.prog fn ([.v (.int .i64 x), .v (.int .i64 y)] ++ cs) (H.set bi ⟨rowL .i64 N (g), ty, kd⟩) fun u H' => u = .v (.int .i64 (cmpI (kf x) (kf y))) ∧ H' = H.set bi ⟨rowL .i64 N (g), ty, kd⟩) {g1 : Nat → Int} {R : V → List Blk → Prop} {n1 : Nat} (hD : ∀ x, x < N → D (g1 x)) (h40 : N ≤ 39) (hl : Srt kf g1 0 (min 20 N)) (hr : Srt kf g1 20 N) (hc : Crs kf g1 0 20 N)
    (hn : n1 = H.length) (hR : ∀ g, Mix g1 g 0 N → Srt kf g 0 N → R (.t []) (H.set bi ⟨rowL .i64 N (g), ty, kd⟩)) (hq : ∀ e s, fin Tryz.prog n1 [] R e s → cx.Q e s) :
    WK Tryz.prog cx [] (restC 4 (Tryz.f96.body.getD .skip)) ⟨[.s bi 0 N c, .v (.int .i64 (N : Int)), .f fn cs, g3, g4, g5, .v (.int .i64 20), g7, g8, g9, g10, g11, g12, g13, g14, g15, g16, g17, g18, g19, g20, g21, g22, g23, g24, g25, g26, g27, g28, g29, g30, g31, g32, g33, g34, g35, g36, g37, g38, g39, g40, g41, g42, g43, g44, g45, g46, g47, g48, g49, g50, g51, g52, g53, g54, g55, g56, g57, g58, g59, g60, g61, g62], H.set bi ⟨rowL .i64 N (g1), ty, kd⟩⟩ := by
  subst hn
  have hgs : ∀ b : Blk, (H.set bi b)[bi]? = some b := fun b => List.getElem?_set_self hlt
  have hlive : kd.live = true := by cases kd <;> first | rfl | cases hk
  have hb0 : Tryz.f96.body = some _ := rfl
  rw [hb0]
  simp only [Option.getD_some, restC]
  repeat ((simp only [go_sem, Int.reduceLT, Int.reduceLE, Int.reduceEq, Int.reduceToNat, hcs]) )
  refine WK_for (fun s : Nat × (Nat → Int) => ⟨[.s bi 0 N c, .v (.int .i64 N), .f fn cs, .any, .any, .any, .v (.int .i64 s.1)] ++ junk 56, H.set bi ⟨rowL .i64 N (s.2), ty, kd⟩⟩) (fun s => (s.1 = 20 ∧ s.2 = g1) ∨ (s.1 = 40 ∧ Mix g1 s.2 0 N ∧ Srt kf s.2 0 N)) (fun s => 40 - s.1) (20, g1) (Weak.slots ?_) (.inl ⟨rfl, rfl⟩) fun s hs => ?_
  · simp [go_sem]
  obtain ⟨bs, g⟩ := s
  simp only at hs ⊢
  rcases hs with ⟨rfl, rfl⟩ | ⟨rfl, hm, hs⟩
  · by_cases h20 : 20 < N
    · have e1 : (((20 : Nat) : Int) < (N : Int)) = True := eq_true (by omega)
      repeat (first | (simp only [go_sem, Int.reduceLT, Int.reduceLE, Int.reduceEq, Int.reduceToNat, hcs, e1]) | ((with_reducible refine And.intro ?_ ?_); omega) )
      refine WK_for (fun s : Nat => ⟨[.s bi 0 N c, .v (.int .i64 N), .f fn cs, .any, .any, .any, .v (.int .i64 ((20 : Nat) : Int)), .v (.int .i64 0), .v (.int .i64 40)] ++ junk 54, H.set bi ⟨rowL .i64 N (g), ty, kd⟩⟩) (fun _ => True) (fun _ => 0) 0 (Weak.slots ?_) trivial fun s _ => ?_
      · simp [go_sem]
      have e2 : ((40 : Int) ≤ (N : Int)) = False := eq_false (by omega)
      have e3 : ((20 : Int) < (N : Int)) = True := eq_true (by omega)
      have e5 : (0 : Int) + ((20 : Nat) : Int) = ((20 : Nat) : Int) := by omega
      repeat (first | (simp only [go_sem, Int.reduceLT, Int.reduceLE, Int.reduceEq, Int.reduceToNat, hcs, e1, e2, e3, e5]) | ((with_reducible refine And.intro ?_ ?_); omega) )
      refine call_ex (symMerge hlt hk hN hcs hf N (f := g) (a := 0) (m := 20) (b := N) (by omega) hD rfl rfl rfl (by omega) h20 (Nat.le_refl _) (by rw [Nat.min_eq_left (by omega)] at hl; exact hl) hr hc) (by simp only [go_sem, hcs]) ?_
      rintro _ _ ⟨g2, mx2, s2, rfl, rfl⟩
      repeat (first | (simp only [go_sem, Int.reduceLT, Int.reduceLE, Int.reduceEq, Int.reduceToNat, hcs]) | ((with_reducible refine And.intro ?_ ?_); omega) )
      refine EK_again (40, g2) (Weak.slots ?_) (.inr ⟨rfl, mx2, s2⟩) (by dsimp only; omega)
      simp [go_sem]
    · have e1 : (((20 : Nat) : Int) < (N : Int)) = False := eq_false (by omega)
      repeat ((simp only [go_sem, Int.reduceLT, Int.reduceLE, Int.reduceEq, Int.reduceToNat, hcs, e1]) )
      refine ret_at hq _ (.inr rfl) (by simp) ?_
      simp only [go_sem]
      rw [Nat.min_eq_right (by omega)] at hl
      exact hR _ (Mix.refl _ _ _) hl
  · have e1 : (((40 : Nat) : Int) < (N : Int)) = False := eq_false (by omega)
    repeat ((simp only [go_sem, Int.reduceLT, Int.reduceLE, Int.reduceEq, Int.reduceToNat, hcs, e1]) )
    refine ret_at hq _ (.inr rfl) (by simp) ?_
    simp only [go_sem]
    exact hR _ hm hs
theorem stable {H : List Blk} {bi N : Nat} {ty : TypeId} {kd : BK} {c : Cap} {fn : Nat} {cs : List V} {kf : Int → Int} {D : Int → Prop} (hlt : bi < H.length) (hk : kd.mut = true) (hN : N ≤ 1000) (hcs : cs.all V.solid = true)
    (hf : ∀ (g : Nat → Int) (x y : Int), D x → D y → Cal Tryz.prog fn ([.v (.int .i64 x), .v (.int .i64 y)] ++ cs) (H.set bi ⟨rowL .i64 N (g), ty, kd⟩) fun u H' => u = .v (.int .i64 (cmpI (kf x) (kf y))) ∧ H' = H.set bi ⟨rowL .i64 N (g), ty, kd⟩) {f : Nat → Int} (hD : ∀ x, x < N → D (f x)) (h40 : N ≤ 39) (hinc : ∀ x y, x < y → y < N → f x < f y) :
    Cal Tryz.prog 96 [.s bi 0 N c, .v (.int .i64 N), .f fn cs] (H.set bi ⟨rowL .i64 N (f), ty, kd⟩) fun u H' => ∃ g, Mix f g 0 N ∧ Srt kf g 0 N ∧ u = .t [] ∧ H' = H.set bi ⟨rowL .i64 N (g), ty, kd⟩ := by
  have hgs : ∀ b : Blk, (H.set bi b)[bi]? = some b := fun b => List.getElem?_set_self hlt
  have hlive : kd.live = true := by cases kd <;> first | rfl | cases hk
  refine cal_fn 60 mixed Tryz.func96 Tryz.ntmps96 Tryz.results96 rfl rfl rfl fun hw cx hx hq => ?_
  obtain ⟨T, hT⟩ : ∃ T, T = restC 4 (Tryz.f96.body.getD .skip) := ⟨_, rfl⟩
  refine WK_cut 4 (T := T) (by rw [hT]; rfl) ?_
  simp only [graftC]
  repeat ((simp only [go_sem, Int.reduceLT, Int.reduceLE, Int.reduceEq, Int.reduceToNat, hcs]) )
  refine WK_for (fun s : (Nat × Nat) × (Nat → Int) => ⟨[.s bi 0 N c, .v (.int .i64 N), .f fn cs, .any, .any, .any, .v (.int .i64 20), .v (.int .i64 s.1.1), .v (.int .i64 s.1.2)] ++ junk 54, H.set bi ⟨rowL .i64 N (s.2), ty, kd⟩⟩) (fun s => ((s.1.1 = 0 ∧ s.1.2 = 20) ∧ s.2 = f) ∨ ((s.1.1 = 20 ∧ s.1.2 = 40) ∧ 20 ≤ N ∧ Mix f s.2 0 20 ∧ Srt kf s.2 0 20)) (fun s => 40 - s.1.2) ((0, 20), f) (Weak.slots ?_) (.inl ⟨⟨rfl, rfl⟩, rfl⟩) fun s hs => ?_
  · simp [go_sem]
  obtain ⟨⟨a, b⟩, g⟩ := s
  simp only at hs ⊢
  have hnl : (H.set bi ⟨rowL .i64 N (f), ty, kd⟩).length = H.length := by simp
  rcases hs with ⟨⟨rfl, rfl⟩, rfl⟩ | ⟨⟨rfl, rfl⟩, h20, hm, hs⟩
  · by_cases h20 : 20 ≤ N
    · have e1 : (((20 : Nat) : Int) ≤ (N : Int)) = True := eq_true (by omega)
      repeat ((simp only [go_sem, Int.reduceLT, Int.reduceLE, Int.reduceEq, Int.reduceToNat, hcs, e1]) )
      refine call_ex (insertion2 hlt hk hN hcs hf (f := g) (a := 0) (b := 20) hD rfl rfl (by omega) h20 (fun x y _ h2 h3 => hinc x y h2 (by omega))) (by simp only [go_sem, hcs]) ?_
      rintro _ _ ⟨g2, mx2, s2, rfl, rfl⟩
      repeat (first | (simp only [go_sem, Int.reduceLT, Int.reduceLE, Int.reduceEq, Int.reduceToNat, hcs]) | ((with_reducible refine And.intro ?_ ?_); omega) )
      refine EK_again ((20, 40), g2) (Weak.slots ?_) (.inr ⟨⟨rfl, rfl⟩, h20, mx2, s2⟩) (by dsimp only; omega)
      simp [go_sem]
    · have e1 : (((20 : Nat) : Int) ≤ (N : Int)) = False := eq_false (by omega)
      repeat ((simp only [go_sem, Int.reduceLT, Int.reduceLE, Int.reduceEq, Int.reduceToNat, hcs, e1]) )
      refine call_ex (insertion2 hlt hk hN hcs hf (f := g) (a := 0) (b := N) hD rfl rfl (by omega) (Nat.le_refl _) (fun x y _ h2 h3 => hinc x y h2 h3)) (by simp only [go_sem, hcs]) ?_
      rintro _ _ ⟨g2, mx2, s2, rfl, rfl⟩
      repeat ((simp only [go_sem, Int.reduceLT, Int.reduceLE, Int.reduceEq, Int.reduceToNat, hcs]) )
      rw [hT]
      exact stTail hlt hk hN hcs hf (mx2.dom (Nat.le_refl _) hD) h40 (s2.sub (Nat.le_refl _) (by omega)) (fun x y _ _ _ => by omega) (fun x y _ _ _ _ => by omega) hnl (fun g3 m3 s3 => ⟨g3, mx2.trans m3, s3, rfl, rfl⟩) hq
  · have e1 : (((40 : Nat) : Int) ≤ (N : Int)) = False := eq_false (by omega)
    repeat ((simp only [go_sem, Int.reduceLT, Int.reduceLE, Int.reduceEq, Int.reduceToNat, hcs, e1]) )
    refine call_ex (insertion2 hlt hk hN hcs hf (f := g) (a := 20) (b := N) (hm.dom h20 hD) rfl rfl h20 (Nat.le_refl _) (fun x y h1 h2 h3 => by rw [hm.out x (by omega), hm.out y (by omega)]; exact hinc x y h2 h3)) (by simp only [go_sem, hcs]) ?_
    rintro _ _ ⟨g2, mx2, s2, rfl, rfl⟩
    repeat ((simp only [go_sem, Int.reduceLT, Int.reduceLE, Int.reduceEq, Int.reduceToNat, hcs]) )
    rw [hT]
    have mx : Mix f g2 0 N := (hm.wide (Nat.le_refl _) h20).trans (mx2.wide (by omega) (Nat.le_refl _))
    have o2 : ∀ x, x < 20 → g2 x = g x := fun x h => mx2.out x (.inl h)
    refine stTail hlt hk hN hcs hf (mx.dom (Nat.le_refl _) hD) h40 ?_ s2 (fun x y _ h2 h3 h4 _ => ?_) hnl (fun g3 m3 s3 => ⟨g3, mx.trans m3, s3, rfl, rfl⟩) hq
    · rw [Nat.min_eq_left h20]; exact hs.congr fun x _ h => o2 x h
    · obtain ⟨u, hu, eu⟩ := hm.to x (by omega) h2
      obtain ⟨v, hv, ev⟩ := mx2.to y h3 h4
      rw [o2 x h2, eu, ev, hm.out v (.inr hv.1)]
      exact hinc u v (by omega) hv.2
theorem sortStable {H : List Blk} {bi N : Nat} {ty : TypeId} {kd : BK} {c : Cap} {fn : Nat} {cs : List V} {kf : Int → Int} {D : Int → Prop} (hlt : bi < H.length) (hk : kd.mut = true) (hN : N ≤ 1000) (hcs : cs.all V.solid = true)
    (hf : ∀ (g : Nat → Int) (x y : Int), D x → D y → Cal Tryz.prog fn ([.v (.int .i64 x), .v (.int .i64 y)] ++ cs) (H.set bi ⟨rowL .i64 N (g), ty, kd⟩) fun u H' => u = .v (.int .i64 (cmpI (kf x) (kf y))) ∧ H' = H.set bi ⟨rowL .i64 N (g), ty, kd⟩) {f : Nat → Int} (hD : ∀ x, x < N → D (f x)) (h40 : N ≤ 39) (hinc : ∀ x y, x < y → y < N → f x < f y) :
    Cal Tryz.prog 72 [.s bi 0 N c, .f fn cs] (H.set bi ⟨rowL .i64 N (f), ty, kd⟩) fun u H' => ∃ g, Mix f g 0 N ∧ Srt kf g 0 N ∧ u = .t [] ∧ H' = H.set bi ⟨rowL .i64 N (g), ty, kd⟩ := by
  have hgs : ∀ b : Blk, (H.set bi b)[bi]? = some b := fun b => List.getElem?_set_self hlt
  have hlive : kd.live = true := by cases kd <;> first | rfl | cases hk
  refine cal_fn 7 mixed Tryz.func72 Tryz.ntmps72 Tryz.results72 rfl rfl rfl fun hw cx hx hq => ?_
  repeat ((simp only [go_sem, Int.reduceLT, Int.reduceLE, Int.reduceEq, Int.reduceToNat, hcs]) )
  refine call_ex (stable hlt hk hN hcs hf hD h40 hinc) (by simp only [go_sem, hcs]) ?_
  rintro _ _ ⟨g2, mx2, s2, rfl, rfl⟩
  repeat ((simp only [go_sem, Int.reduceLT, Int.reduceLE, Int.reduceEq, Int.reduceToNat, hcs]) )
  refine ret_at hq _ (.inr rfl) (by simp) ?_
  simp only [go_sem]
  exact ⟨g2, mx2, s2, rfl⟩
end Go.Proofs.YtaekjojblkhfdaaGreatDoor
namespace Go.Proofs.YtaekjojblkhfdaaGreatDoor
open Go Go.Sx
def f0P (p x : Nat) : Int := if x < p then (x : Int) else (x : Int) + 1
structure EnumP (k : Int → Int) (n p : Nat) (g : Nat → Int) : Prop where
  val : ∀ x, x + 1 < n → (0 ≤ g x ∧ g x < n) ∧ g x ≠ p
  all : ∀ y : Int, 0 ≤ y → y < n → y ≠ p → ∃ x, x + 1 < n ∧ g x = y
  srt : Srt k g 0 (n - 1)
theorem Bef.irr {k : Int → Int} {x y : Int} (h : Bef k x y) (h2 : Bef k y x) : False := by unfold Bef at *; omega
theorem EnumP.inj {k : Int → Int} {n p : Nat} {g : Nat → Int} (h : EnumP k n p g) {x y : Nat} (hx : x + 1 < n) (hy : y + 1 < n) (e : g x = g y) : x = y := by
  rcases Nat.lt_trichotomy x y with h1 | h1 | h1
  · have := h.srt x y (by omega) h1 (by omega); rw [e] at this; exact (this.irr this).elim
  · exact h1
  · have := h.srt y x (by omega) h1 (by omega); rw [e] at this; exact (this.irr this).elim
theorem EnumP.uniq {k : Int → Int} {n p : Nat} {g g' : Nat → Int} (h : EnumP k n p g) (h' : EnumP k n p g') : ∀ x, x + 1 < n → g x = g' x := by
  intro x
  induction x using Nat.strongRecOn with
  | ind x ih =>
    intro hx
    obtain ⟨y, hy, ey⟩ := h'.all (g x) (h.val x hx).1.1 (h.val x hx).1.2 (h.val x hx).2
    obtain ⟨z, hz, ez⟩ := h.all (g' x) (h'.val x hx).1.1 (h'.val x hx).1.2 (h'.val x hx).2
    have yx : ¬ y < x := fun hlt => by
      have e := ih y hlt hy
      rw [ey] at e
      exact absurd (h.inj hy hx e) (by omega)
    have zx : ¬ z < x := fun hlt => by
      have e := ih z hlt hz
      rw [ez] at e
      exact absurd (h'.inj hz hx e.symm) (by omega)
    by_cases e1 : y = x
    · rw [← ey, e1]
    · by_cases e2 : z = x
      · rw [← ez, e2]
      · have b1 := h'.srt x y (by omega) (by omega) (by omega)
        have b2 := h.srt x z (by omega) (by omega) (by omega)
        rw [ey] at b1
        rw [ez] at b2
        exact (b1.irr b2).elim
theorem f0P_val {n p x : Nat} (hx : x + 1 < n) : (0 ≤ f0P p x ∧ f0P p x < n) ∧ f0P p x ≠ p := by unfold f0P; split <;> omega
theorem f0P_all {n p : Nat} {y : Int} (h0 : 0 ≤ y) (h1 : y < n) (h2 : y ≠ p) (hp : p < n) : ∃ x, x + 1 < n ∧ f0P p x = y := by
  by_cases h : y < p
  · exact ⟨y.toNat, by omega, by unfold f0P; rw [if_pos (by omega)]; omega⟩
  · exact ⟨(y - 1).toNat, by omega, by unfold f0P; rw [if_neg (by omega)]; omega⟩
theorem f0P_inc {p x y : Nat} (h : x < y) : f0P p x < f0P p y := by unfold f0P; split <;> split <;> omega
theorem enum_of {k : Int → Int} {n p : Nat} {g : Nat → Int} (hp : p < n) (hm : Mix (f0P p) g 0 (n - 1)) (hs : Srt k g 0 (n - 1)) : EnumP k n p g := by
  refine ⟨fun x hx => ?_, fun y h0 h1 h2 => ?_, hs⟩
  · obtain ⟨z, hz, e⟩ := hm.to x (by omega) (by omega)
    rw [e]; exact f0P_val (by omega)
  · obtain ⟨x, hx, e⟩ := f0P_all h0 h1 h2 hp
    obtain ⟨z, hz, e2⟩ := hm.fro x (by omega) (by omega)
    exact ⟨z, by omega, by rw [← e2, e]⟩
theorem enum_ex (k : Int → Int) {n p : Nat} (hp : p < n) : ∃ g, EnumP k n p g := by
  obtain ⟨le, hle⟩ : ∃ le : Int → Int → Bool, ∀ a b, le a b = true ↔ (k a < k b ∨ (k a = k b ∧ a ≤ b)) := ⟨fun a b => decide (k a < k b ∨ (k a = k b ∧ a ≤ b)), fun a b => by simp⟩
  obtain ⟨S, hS⟩ : ∃ S, S = ((List.range (n - 1)).map (f0P p)).mergeSort le := ⟨_, rfl⟩
  have hperm : S.Perm ((List.range (n - 1)).map (f0P p)) := hS ▸ List.mergeSort_perm _ _
  have hlen : S.length = n - 1 := by rw [hperm.length_eq]; simp
  have hpw : S.Pairwise fun a b => le a b = true := by
    rw [hS]
    exact List.pairwise_mergeSort (fun a b c h1 h2 => by rw [hle] at *; omega) (fun a b => by rw [Bool.or_eq_true, hle, hle]; omega) _
  have hnd : S.Nodup := by
    refine hperm.nodup_iff.2 ?_
    rw [List.nodup_iff_pairwise_ne, List.pairwise_map]
    refine List.Pairwise.imp ?_ (List.nodup_iff_pairwise_ne.1 (List.nodup_range (n := n - 1)))
    intro a b hab e
    rcases Nat.lt_or_gt_of_ne hab with h | h
    · have := f0P_inc (p := p) h; omega
    · have := f0P_inc (p := p) h; omega
  have hat : ∀ x, x + 1 < n → ∃ h : x < S.length, (S[x]?.getD 0) = S[x] := fun x hx => ⟨by omega, by rw [List.getElem?_eq_getElem (by omega)]; rfl⟩
  refine ⟨fun x => S[x]?.getD 0, fun x hx => ?_, fun y h0 h1 h2 => ?_, fun x y _ hxy hy => ?_⟩
  · obtain ⟨h, e⟩ := hat x hx
    simp only [e]
    have hm := hperm.mem_iff.1 (List.getElem_mem h)
    obtain ⟨z, hz, e2⟩ := List.mem_map.1 hm
    rw [← e2]
    exact f0P_val (by have := List.mem_range.1 hz; omega)
  · obtain ⟨x, hx, e⟩ := f0P_all h0 h1 h2 hp
    have hm : y ∈ S := hperm.mem_iff.2 (List.mem_map.2 ⟨x, List.mem_range.2 (by omega), e⟩)
    obtain ⟨z, hz, e2⟩ := List.mem_iff_getElem.1 hm
    exact ⟨z, by omega, by simp only [(hat z (by omega)).2, e2]⟩
  · obtain ⟨hx', ex⟩ := hat x (by omega)
    obtain ⟨hy', ey⟩ := hat y (by omega)
    simp only [ex, ey]
    have h1 := List.pairwise_iff_getElem.1 hpw x y hx' hy' hxy
    have h2 : S[x] ≠ S[y] := fun e => absurd ((List.getElem_inj hnd).1 e) (by omega)
    rw [hle] at h1
    unfold Bef; omega
def nearL (g : Nat → Int) (c : Nat) : List Int := (List.range c).map g
theorem nearL_len (g : Nat → Int) (c : Nat) : (nearL g c).length = c := by simp [nearL]
theorem nearL_succ (g : Nat → Int) (c : Nat) : nearL g (c + 1) = nearL g c ++ [g c] := by simp [nearL, List.range_succ]
theorem nearL_row (g : Nat → Int) (c : Nat) : (nearL g c).flatMap i64C = rowL .i64 c g := by
  unfold nearL rowL i64C
  rw [List.flatMap_map]
  induction c with
  | zero => rfl
  | succ c ih => simp [List.range_succ, ih]
end Go.Proofs.YtaekjojblkhfdaaGreatDoor
namespace Go.Proofs.YtaekjojblkhfdaaGreatDoor
open Go Go.Sx
theorem boC_0 {b : List (Nat → Int)} {p : Int} (h12 : ∀ f ∈ b, F12 f) (hb1 : 1 ≤ b.length) (hb6 : b.length ≤ 6) (hp : -1 ≤ p ∧ p < (b.length : Int)) : boC b p = 0 := by
  unfold boC
  rw [if_pos (okB_len h12 (by omega)), if_pos (by omega), if_neg (by omega), if_neg (by omega)]
theorem boC_6 {b : List (Nat → Int)} (h12 : ∀ f ∈ b, F12 f) (h0 : b.length = 0) : boC b (-1) = 6 := by
  unfold boC
  rw [if_pos (okB_len h12 (by omega)), if_pos (by omega), if_neg (by omega), if_pos h0]
structure BestP (b : List (Nat → Int)) (p : Int) (D : List Int) : Prop where
  ord : OrdP D b.length
  pre : 0 ≤ p → [p] <+: D
  le : ∀ o, OrdP o b.length → (0 ≤ p → [p] <+: o) → ordJ b D ≤ ordJ b o
theorem best_is {b : List (Nat → Int)} {p : Int} (hb1 : 1 ≤ b.length) (hb6 : b.length ≤ 6) (hp : -1 ≤ p ∧ p < (b.length : Int)) :
    ∃ D, boS b p = some (D, ordJ b D) ∧ BestP b p D := by
  have hl := boB_len p
  have hJ : ordJ b (boB p) = 0 := by
    unfold boB
    split
    · exact ordJ_one _ _
    · exact ordJ_nil _
  have hpart : PartP (boB p) b.length := by
    unfold boB
    split
    · refine ⟨fun k hk => ?_, by simp⟩
      rw [List.mem_singleton.1 hk]; omega
    · exact part_nil _
  have hpl : plainL b.length = plainL b.length := rfl
  have hgood : GoodS b (boB p) (boS b p) := by
    have := srch_good (l := b) (pre := boB p) (b.length - (boB p).length) (boB p) none hpart (by omega) (List.prefix_refl _) (fun _ _ e => by cases e)
    rw [hJ] at this
    exact this
  have hmost : ∀ o, OrdP o b.length → boB p <+: o → AtMost (boS b p) (ordJ b o) := fun o ho hpre => by
    have := srch_best (l := b) (by omega) ho (b.length - (boB p).length) (boB p) none hpre (by omega)
    rw [hJ] at this
    exact this
  have hne : boS b p ≠ none := srch_some (by omega) _ _ _ _ (by omega) (by omega) (by omega)
  obtain ⟨D, x, hD⟩ : ∃ D x, boS b p = some (D, x) := by
    cases e : boS b p with
    | none => exact absurd e hne
    | some y => exact ⟨y.1, y.2, rfl⟩
  obtain ⟨g1, g2, g3⟩ := hgood D x hD
  subst g2
  refine ⟨D, hD, g1, fun h0 => ?_, fun o ho hpre => ?_⟩
  · unfold boB at g3
    rw [if_pos h0] at g3; exact g3
  · obtain ⟨D2, y, e, hy⟩ := hmost o ho (by
      unfold boB
      split
      · rename_i h0; exact hpre h0
      · exact List.nil_prefix)
    rw [hD] at e
    cases e
    exact hy
theorem plain_J (b : List (Nat → Int)) : ordJ b (plainL b.length) = allJ b := by
  unfold ordJ
  rw [inO_plain, allJ_psL]
/- The opposite order. -/
theorem opN_at {o : List Int} {n : Nat} (ho : OrdP o n) : ∀ m, m ≤ n → ∀ (i : Nat) (hi : i < m), (opN o m)[(o[i]?.getD 0).toNat]? = some (i : Int)
  | 0, _, i, hi => by omega
  | m + 1, hm, i, hi => by
    have hl := ho.1
    have hr : ∀ j (hj : j < o.length), 0 ≤ o[j] ∧ o[j] < (n : Int) := fun j hj => ho.2.1 _ (List.getElem_mem hj)
    have hmo := hr m (by omega)
    unfold opN
    rw [List.getElem?_set]
    by_cases e : i = m
    · subst e
      have em : o[i]?.getD 0 = o[i] := by rw [List.getElem?_eq_getElem (by omega)]; rfl
      rw [em, if_pos rfl, if_pos (by rw [opN_len]; omega)]
    · have ih := opN_at ho m (by omega) i (by omega)
      have hne : ¬ (o[m]?.getD 0).toNat = (o[i]?.getD 0).toNat := by
        rw [List.getElem?_eq_getElem (by omega), List.getElem?_eq_getElem (by omega), Option.getD_some, Option.getD_some]
        have h1 := hr i (by omega)
        intro e2
        have e3 : o[i] = o[m] := by omega
        exact e ((List.getElem_inj ho.2.2).1 e3)
      rw [if_neg hne]; exact ih
theorem ord_find {o : List Int} {n : Nat} (ho : OrdP o n) {k : Nat} (hk : k < n) : ∃ i, ∃ hi : i < o.length, o[i] = (k : Int) := by
  obtain ⟨i, hi, e⟩ := List.mem_iff_getElem.1 (ord_all ho hk)
  exact ⟨i, hi, e⟩
theorem op_at {o : List Int} {n k i : Nat} (ho : OrdP o n) (hi : i < o.length) (e : o[i] = (k : Int)) : (opN o n)[k]? = some (i : Int) := by
  have := opN_at ho n (Nat.le_refl _) i (by have := ho.1; omega)
  rw [List.getElem?_eq_getElem hi, Option.getD_some, e, Int.toNat_natCast] at this
  exact this
theorem op_ord {o : List Int} {n : Nat} (ho : OrdP o n) : OrdP (opN o n) n := by
  have hl := ho.1
  have hlen : (opN o n).length = n := by rw [opN_len, hl]
  have hat : ∀ k (hk : k < (opN o n).length), ∃ i, ∃ hi : i < o.length, o[i] = (k : Int) ∧ (opN o n)[k] = (i : Int) := fun k hk => by
    obtain ⟨i, hi, e⟩ := ord_find ho (k := k) (by omega)
    have := op_at ho hi e
    rw [List.getElem?_eq_getElem hk] at this
    exact ⟨i, hi, e, Option.some.inj this⟩
  refine ⟨hlen, fun x hx => ?_, ?_⟩
  · obtain ⟨k, hk, rfl⟩ := List.mem_iff_getElem.1 hx
    obtain ⟨i, hi, _, e2⟩ := hat k hk
    rw [e2]; omega
  · rw [List.Nodup, List.pairwise_iff_getElem]
    intro i j hi hj hij e
    obtain ⟨a, ha, e1, e2⟩ := hat i hi
    obtain ⟨c, hc, e3, e4⟩ := hat j hj
    rw [e2, e4] at e
    have : a = c := by omega
    subst this
    rw [e1] at e3; omega
theorem op_home {b : List (Nat → Int)} {o : List Int} (ho : OrdP o b.length) : inO (inO b o) (opN o b.length) = b := by
  have hl := ho.1
  have hlen : (opN o b.length).length = b.length := by rw [opN_len, hl]
  apply List.ext_getElem
  · rw [inO_len, hlen]
  · intro k h1 h2
    obtain ⟨i, hi, e⟩ := ord_find ho h2
    have h3 := op_at ho hi e
    have h4 : (opN o b.length)[k]'(by omega) = (i : Int) := by
      rw [List.getElem?_eq_getElem (by omega)] at h3
      exact Option.some.inj h3
    have e1 : (inO (inO b o) (opN o b.length))[k] = pg (inO b o) ((opN o b.length)[k]'(by omega)).toNat := by simp [inO]
    rw [e1, h4, Int.toNat_natCast, pg_at (by rw [inO_len]; omega)]
    have e2 : (inO b o)[i]'(by rw [inO_len]; omega) = pg b (o[i]).toNat := by simp [inO]
    rw [e2, e, Int.toNat_natCast, pg_at h2]
theorem op_C {o : List Int} {n : Nat} (ho : OrdP o n) (hn : n ≤ 6) : opC o = 0 := by
  have hl := ho.1
  unfold opC
  rw [if_neg (by omega), if_pos (isOrd_iff.2 (by rw [hl]; exact ho))]
/- The nearest pages. -/
theorem near_at (g : Nat → Int) {c j : Nat} (h : j < c) : (nearL g c)[j]? = some (g j) := by
  unfold nearL
  rw [List.getElem?_map, List.getElem?_range h]; rfl
theorem near_inc {k : Int → Int} {n p : Nat} {g : Nat → Int} (h : EnumP k n p g) {j : Nat} (hj : j + 2 < n) : k (g j) ≤ k (g (j + 1)) := by
  have := h.srt j (j + 1) (by omega) (by omega) (by omega)
  unfold Bef at this
  omega
end Go.Proofs.YtaekjojblkhfdaaGreatDoor
namespace Go.Proofs.YtaekjojblkhfdaaGreatDoor
open Go Go.Shelf
def lays156_ren : Go.Shelf.Ren := ⟨fun | 156 => 37 | 165 => 80 | 166 => 81 | 169 => 82 | 240 => 104 | 241 => 105 | 276 => 130 | 277 => 131 | n => n, fun | 31 => 56 | 9 => 9 | 3 => 3 | 4 => 4 | 0 => 0 | 20 => 20 | 72 => 112 | 76 => 114 | 70 => 110 | 37 => 22 | 75 => 106 | 127 => 135 | 164 => 160 | 5 => 5 | 80 => 116 | n => n, fun | n => n⟩
theorem lays156 : Go.Proofs.Lays.n156 Tryz.prog lays156_ren := {
  mixed := by kernel_rfl
  f156 := Tryz.func37.trans (congrArg some (by kernel_rfl))
  f165 := Tryz.func80.trans (congrArg some (by kernel_rfl))
  f166 := Tryz.func81.trans (congrArg some (by kernel_rfl))
  f169 := Tryz.func82.trans (congrArg some (by kernel_rfl))
  f240 := Tryz.func104.trans (congrArg some (by kernel_rfl))
  f241 := Tryz.func105.trans (congrArg some (by kernel_rfl))
  f276 := Tryz.func130.trans (congrArg some (by kernel_rfl))
  f277 := Tryz.func131.trans (congrArg some (by kernel_rfl))
  t0 := Tryz.underlying0
  a0 := Tryz.isAgg0
  z0 := Tryz.sizeOf0
  v0 := Tryz.zeroValue0
  t3 := Tryz.underlying3
  a3 := Tryz.isAgg3
  z3 := Tryz.sizeOf3
  v3 := Tryz.zeroValue3
  t4 := Tryz.underlying4
  a4 := Tryz.isAgg4
  z4 := Tryz.sizeOf4
  v4 := Tryz.zeroValue4
  t9 := Tryz.underlying9
  a9 := Tryz.isAgg9
  z9 := Tryz.sizeOf9
  v9 := Tryz.zeroValue9
  t20 := Tryz.underlying20
  a20 := Tryz.isAgg20
  z20 := Tryz.sizeOf20
  v20 := Tryz.zeroValue20
  t31 := Tryz.underlying56
  a31 := Tryz.isAgg56
  z31 := Tryz.sizeOf56
  v31 := Tryz.zeroValue56
  t37 := Tryz.underlying22
  a37 := Tryz.isAgg22
  z37 := Tryz.sizeOf22
  v37 := Tryz.zeroValue22
  t70 := Tryz.underlying110
  a70 := Tryz.isAgg110
  z70 := Tryz.sizeOf110
  v70 := Tryz.zeroValue110
  t72 := Tryz.underlying112
  a72 := Tryz.isAgg112
  z72 := Tryz.sizeOf112
  v72 := Tryz.zeroValue112
  t75 := Tryz.underlying106
  a75 := Tryz.isAgg106
  z75 := Tryz.sizeOf106
  v75 := Tryz.zeroValue106
  t76 := Tryz.underlying114
  a76 := Tryz.isAgg114
  z76 := Tryz.sizeOf114
  v76 := Tryz.zeroValue114
  t127 := Tryz.underlying135
  a127 := Tryz.isAgg135
  z127 := Tryz.sizeOf135
  v127 := Tryz.zeroValue135
  t164 := Tryz.underlying160
  a164 := Tryz.isAgg160
  z164 := Tryz.sizeOf160
  v164 := Tryz.zeroValue160 }
end Go.Proofs.YtaekjojblkhfdaaGreatDoor
namespace Go.Proofs.YtaekjojblkhfdaaGreatDoor
open Go Go.Sx
open Go.Shelf Go.Proofs
theorem extra156 : Builder.Extra Tryz.prog lays156_ren where
  sizeBuilder := by kernel_rfl
  liesBuilder := by kernel_rfl
  t5 := Tryz.underlying5
  a5 := Tryz.isAgg5
  z5 := Tryz.sizeOf5
  v5 := Tryz.zeroValue5
  infoByte := by kernel_rfl
  cellsByte := by kernel_rfl
  sizeByte := by kernel_rfl
  neB5 := by decide
def joinT (xs : List (List Int)) (sep : List Int) : ByteArray := ⟨(Lib.join ((xs.map bstr).map (·.data.toList)) (bstr sep).data.toList).toArray⟩
theorem joinC {H : List Blk} {i n : Nat} {c : Cap} {xs : List (List Int)} {sep : List Int} (hr : H[i]? = some ⟨xs.flatMap sC, 9, .own 1⟩) (hn : n = xs.length) (hc : c = .w ∨ c = .u 0) (hlen : (Lib.join ((xs.map bstr).map (·.data.toList)) (bstr sep).data.toList).length ≤ 100000) (hN : xs.length ≤ 1000) :
    Cal Tryz.prog 37 [.s i 0 n c, .v (.string (bstr sep))] H fun u H' => u = .v (.string (joinT xs sep)) ∧ H' = H := by
  subst hn
  refine cal_below (by kernel_rfl) (r := .v (.string (joinT xs sep))) (by simp [go_sem]) fun σ w hw hl => ?_
  have hh := hw.holds i _ hr
  have hcell := fun j u => (hh.cell (j := j) (u := u) rfl)
  obtain ⟨r0, cur, m, hrg, hm, hcap, hsz, hmax, htake⟩ := (hh : _ ∧ _)
  rw [flat_sC.flen] at hm
  have hml : m = xs.length := by simp only [Nat.mul_one] at hm; exact hm.symm
  subst hml
  have hcv : c.val (σ i).cap = (σ i).cap := by rcases hc with rfl | rfl <;> rfl
  have ec : (concs σ [V.s i 0 xs.length c, .v (.string (bstr sep))]).toArray = #[.slice (some ⟨(σ i).blk, 0, none⟩) (xs.map bstr).length (σ i).cap, .string (bstr sep)] := by simp [concs, conc, r0, hcv]
  rw [ec]
  refine (Any.strings_Join lays156 extra156 (σ i).blk 0 (σ i).cap (xs.map bstr) (bstr sep) w ?_ ?_ ?_ ?_ ?_).mono ?_
  · intro j x hx
    have h1 : (concs σ (xs.flatMap sC))[j]? = some (Value.string x) := by
      rw [sC_map, concs_eq, List.map_map, List.getElem?_map]
      rw [List.getElem?_map] at hx
      cases h2 : xs[j]? with
      | none => rw [h2] at hx; cases hx
      | some y => rw [h2] at hx; cases hx; rfl
    have h3 := hcell j _ h1
    rw [r0] at h3
    exact h3
  · exact (Array.getElem?_eq_some_iff.1 hrg).1
  · simp; omega
  · simp; exact hcap
  · omega
  · rintro e w' ⟨rfl, hb⟩
    exact ⟨rfl, hb⟩
def decT (i : Nat) : List Int := bytI ⟨(Lib.decDigits i).toArray⟩
theorem decT_8 (i : Nat) : B8 (decT i) := bytI_8 _
theorem dec_small {i : Nat} (h : i < 10) : Lib.decDigits i = [UInt8.ofNat (48 + i)] := by rw [Lib.decDigits, dif_pos h]
theorem dec_two {i : Nat} (h : 10 ≤ i) (h2 : i < 100) : Lib.decDigits i = [UInt8.ofNat (48 + i / 10), UInt8.ofNat (48 + i % 10)] := by
  rw [Lib.decDigits, dif_neg (by omega), dec_small (by omega)]; rfl
theorem decT_small {i : Nat} (h : i < 10) : decT i = [((48 + i : Nat) : Int)] := by
  unfold decT bytI
  rw [dec_small h]
  simp
  omega
theorem decT_two {i : Nat} (h : 10 ≤ i) (h2 : i < 100) : decT i = [((48 + i / 10 : Nat) : Int), ((48 + i % 10 : Nat) : Int)] := by
  unfold decT bytI
  rw [dec_two h h2]
  simp
  omega
theorem decT_len {i : Nat} (h2 : i < 100) : (decT i).length ≤ 2 := by
  by_cases h : i < 10
  · rw [decT_small h]; simp
  · rw [decT_two (by omega) h2]; simp
end Go.Proofs.YtaekjojblkhfdaaGreatDoor
namespace Go.Proofs.YtaekjojblkhfdaaGreatDoor
open Go Go.Sx
def jnT (s : List Int) : List (List Int) → List Int
  | [] => []
  | x :: r => x ++ r.flatMap (s ++ ·)
theorem jnT_one (s x : List Int) : jnT s [x] = x := by simp [jnT]
theorem jnT_len {s : List Int} {k : Nat} : ∀ {xs : List (List Int)}, (∀ x ∈ xs, x.length + s.length ≤ k) → (jnT s xs).length ≤ k * xs.length
  | [], _ => by simp [jnT]
  | x :: r, h => by
    have h0 := h x (List.mem_cons_self ..)
    have : ∀ (r : List (List Int)), (∀ x ∈ r, x.length + s.length ≤ k) → (r.flatMap (s ++ ·)).length ≤ k * r.length := by
      intro r
      induction r with
      | nil => simp
      | cons a r ih =>
        intro h
        have h1 := h a (List.mem_cons_self ..)
        have h2 := ih fun x hx => h x (List.mem_cons_of_mem _ hx)
        simp only [List.flatMap_cons, List.length_append, List.length_cons, Nat.mul_succ]
        omega
    have h1 := this r fun x hx => h x (List.mem_cons_of_mem _ hx)
    simp only [jnT, List.length_append, List.length_cons, Nat.mul_succ]
    omega
def u8L (l : List Int) : List UInt8 := l.map fun n => UInt8.ofNat n.toNat
theorem bstr_u8 (l : List Int) : (bstr l).data.toList = u8L l := by simp [bstr, u8L]
theorem join_u8 (s : List Int) (xs : List (List Int)) : Lib.join (xs.map u8L) (u8L s) = u8L (jnT s xs) := by
  cases xs with
  | nil => rfl
  | cons x r =>
    rw [List.map_cons, Lib.join_cons]
    unfold Lib.joinTail jnT
    simp [u8L, List.map_flatMap, List.flatMap_def, Function.comp_def]
theorem join_bstr (s : List Int) (xs : List (List Int)) : Lib.join ((xs.map bstr).map (·.data.toList)) (bstr s).data.toList = u8L (jnT s xs) := by
  rw [bstr_u8, ← join_u8, List.map_map]
  congr 1
theorem joinT_eq (xs : List (List Int)) (s : List Int) : joinT xs s = bstr (jnT s xs) := by
  unfold joinT
  rw [join_bstr]
  rfl
theorem join_len (s : List Int) (xs : List (List Int)) : (Lib.join ((xs.map bstr).map (·.data.toList)) (bstr s).data.toList).length = (jnT s xs).length := by
  rw [join_bstr]; simp [u8L]
def ordL (l : List Int) : List (List Int) := l.map fun k => decT k.toNat
def ordT (l : List Int) : List Int := jnT [32] (ordL l)
theorem ordL_len (l : List Int) : (ordL l).length = l.length := by simp [ordL]
theorem ordL_succ {l : List Int} {n : Nat} (h : n < l.length) : ordL (l.take (n + 1)) = ordL (l.take n) ++ [decT (l[n]).toNat] := by
  unfold ordL; rw [List.take_succ_eq_append_getElem h, List.map_append]; rfl
def okO (l : List Int) : Prop := ∀ k ∈ l, 0 ≤ k ∧ k ≤ 39
instance (l : List Int) : Decidable (okO l) := by unfold okO; infer_instance
theorem ordT_len {l : List Int} (h : okO l) : (ordT l).length ≤ 3 * l.length := by
  have h1 := jnT_len (s := [32]) (k := 3) (xs := ordL l) (by
    intro x hx
    unfold ordL at hx
    obtain ⟨k, hk, rfl⟩ := List.mem_map.1 hx
    have := h k hk
    have := decT_len (i := k.toNat) (by omega)
    simp; omega)
  rw [ordL_len] at h1
  exact h1
theorem bs32 : (ByteArray.mk #[32]) = bstr [32] := rfl
theorem bs0 : (ByteArray.mk #[]) = bstr [] := rfl
theorem ordL_nil : ordL [] = [] := rfl
def otT (l : List Int) : List Int := if okO l ∧ l.length ≤ 40 then ordT l else []
end Go.Proofs.YtaekjojblkhfdaaGreatDoor
namespace Go.Proofs.YtaekjojblkhfdaaGreatDoor
open Go Go.Shelf
def laysM173_ren : Go.Shelf.Ren := ⟨fun | 173 => 79 | 246 => 103 | 283 => 126 | 284 => 127 | 285 => 128 | 286 => 129 | 129 => 148 | 317 => 147 | 318 => 149 | 319 => 150 | 320 => 151 | 337 => 170 | 338 => 171 | n => n, fun | 2 => 2 | 3 => 3 | 9 => 9 | 4 => 4 | 171 => 155 | 0 => 0 | 53 => 101 | 37 => 22 | 5 => 5 | 173 => 158 | 212 => 181 | 51 => 182 | 20 => 20 | 213 => 183 | 46 => 100 | 232 => 213 | 233 => 214 | n => n, fun | 17 => 2 | 18 => 6 | 19 => 7 | n => n⟩
theorem laysM173 : Go.Proofs.LaysM.n173 Tryz.prog laysM173_ren := {
  mixed := by kernel_rfl
  f129 := Tryz.func148.trans (congrArg some (by kernel_rfl))
  f173 := Tryz.func79.trans (congrArg some (by kernel_rfl))
  f246 := Tryz.func103.trans (congrArg some (by kernel_rfl))
  f283 := Tryz.func126.trans (congrArg some (by kernel_rfl))
  f284 := Tryz.func127.trans (congrArg some (by kernel_rfl))
  f285 := Tryz.func128.trans (congrArg some (by kernel_rfl))
  f286 := Tryz.func129.trans (congrArg some (by kernel_rfl))
  f317 := Tryz.func147.trans (congrArg some (by kernel_rfl))
  f318 := Tryz.func149.trans (congrArg some (by kernel_rfl))
  f319 := Tryz.func150.trans (congrArg some (by kernel_rfl))
  f320 := Tryz.func151.trans (congrArg some (by kernel_rfl))
  f337 := Tryz.func170.trans (congrArg some (by kernel_rfl))
  f338 := Tryz.func171.trans (congrArg some (by kernel_rfl))
  t0 := Tryz.underlying0
  a0 := Tryz.isAgg0
  z0 := Tryz.sizeOf0
  v0 := Tryz.zeroValue0
  t2 := Tryz.underlying2
  a2 := Tryz.isAgg2
  z2 := Tryz.sizeOf2
  v2 := Tryz.zeroValue2
  t3 := Tryz.underlying3
  a3 := Tryz.isAgg3
  z3 := Tryz.sizeOf3
  v3 := Tryz.zeroValue3
  t4 := Tryz.underlying4
  a4 := Tryz.isAgg4
  z4 := Tryz.sizeOf4
  v4 := Tryz.zeroValue4
  t5 := Tryz.underlying5
  a5 := Tryz.isAgg5
  z5 := Tryz.sizeOf5
  v5 := Tryz.zeroValue5
  t9 := Tryz.underlying9
  a9 := Tryz.isAgg9
  z9 := Tryz.sizeOf9
  v9 := Tryz.zeroValue9
  t20 := Tryz.underlying20
  a20 := Tryz.isAgg20
  z20 := Tryz.sizeOf20
  v20 := Tryz.zeroValue20
  t37 := Tryz.underlying22
  a37 := Tryz.isAgg22
  z37 := Tryz.sizeOf22
  v37 := Tryz.zeroValue22
  t46 := Tryz.underlying100
  a46 := Tryz.isAgg100
  z46 := Tryz.sizeOf100
  v46 := Tryz.zeroValue100
  t51 := Tryz.underlying182
  a51 := Tryz.isAgg182
  z51 := Tryz.sizeOf182
  v51 := Tryz.zeroValue182
  t53 := Tryz.underlying101
  a53 := Tryz.isAgg101
  z53 := Tryz.sizeOf101
  v53 := Tryz.zeroValue101
  t171 := Tryz.underlying155
  a171 := Tryz.isAgg155
  z171 := Tryz.sizeOf155
  v171 := Tryz.zeroValue155
  t173 := Tryz.underlying158
  a173 := Tryz.isAgg158
  z173 := Tryz.sizeOf158
  v173 := Tryz.zeroValue158
  t212 := Tryz.underlying181
  a212 := Tryz.isAgg181
  z212 := Tryz.sizeOf181
  v212 := Tryz.zeroValue181
  t213 := Tryz.underlying183
  a213 := Tryz.isAgg183
  z213 := Tryz.sizeOf183
  t232 := Tryz.underlying213
  a232 := Tryz.isAgg213
  z232 := Tryz.sizeOf213
  v232 := Tryz.zeroValue213
  t233 := Tryz.underlying214
  a233 := Tryz.isAgg214
  z233 := Tryz.sizeOf214
  v233 := Tryz.zeroValue214
  g17 := by kernel_rfl
  g18 := by kernel_rfl
  g19 := by kernel_rfl
  i0 := by kernel_rfl
  i2 := by kernel_rfl
  i3 := by kernel_rfl
  i4 := by kernel_rfl
  i5 := by kernel_rfl
  i9 := by kernel_rfl
  i20 := by kernel_rfl
  i37 := by kernel_rfl
  i46 := by kernel_rfl
  i51 := by kernel_rfl
  i53 := by kernel_rfl
  i171 := by kernel_rfl
  i173 := by kernel_rfl
  i212 := by kernel_rfl
  i232 := by kernel_rfl
  i233 := by kernel_rfl
  m17 := by kernel_rfl
  m18 := by kernel_rfl
  m19 := by kernel_rfl }
end Go.Proofs.YtaekjojblkhfdaaGreatDoor
namespace Go.Proofs.YtaekjojblkhfdaaGreatDoor
open Go Go.Sx
open Go.Shelf Go.Proofs
def powC : List V := Lib.pow10Tab.map fun z => .v (.int .u64 z)
structure Pow (H : List Blk) : Prop where
  pow : H[0]? = some ⟨powC, 0, .pin 2⟩
theorem Pow.app {H L : List Blk} (h : Pow H) : Pow (H ++ L) := ⟨get_app h.pow⟩
theorem powC_conc (σ : Nat → Go.Sx.Loc) : concs σ powC = Lib.pow10Tab.map fun z => Value.int .u64 z := by
  unfold powC; rw [concs_eq, List.map_map]; rfl
theorem pow_is {σ : Nat → Go.Sx.Loc} {H : List Blk} {w : World} (hw : HRel σ H w) (hp : Pow H) : Lib.TabIs Tryz.prog w "internal/strconv.uint64pow10" .u64 Lib.pow10Tab := by
  unfold Lib.TabIs
  rw [hw.pin_var (P := Tryz.prog) hp.pow (by kernel_rfl), powC_conc]
theorem fmtIntG {H : List Blk} (hp : Pow H) {i : Int} (h0 : -1000000 ≤ i) (h1 : i ≤ 1000000) : Cal Tryz.prog 79 [.v (.int .i64 i), .v (.int .i64 10)] H fun u H' => u = .v (.string ⟨(Lib.itoa i).toArray⟩) ∧ H' = H := by
  refine cal_below (by kernel_rfl) (r := .v (.string ⟨(Lib.itoa i).toArray⟩)) (by simp [go_sem]) fun σ w hw hl => ?_
  refine (Any.strconv_FormatInt_10 laysM173 i (by omega) (by omega) w (pow_is hw hp)).mono ?_
  rintro e w' ⟨rfl, k, os, rfl⟩
  refine ⟨rfl, rfl, rfl, rfl, by simp [Go.Sort.grow, World.drewN], fun j hj => ?_⟩
  show (w.heap ++ os)[j]? = w.heap[j]?
  rw [Array.getElem?_append_left hj]
def decI (i : Int) : List Int := bytI ⟨(Lib.itoa i).toArray⟩
theorem bstr_decI (i : Int) : bstr (decI i) = ⟨(Lib.itoa i).toArray⟩ := bstr_bytI _
theorem decI_8 (i : Int) : B8 (decI i) := bytI_8 _
theorem decI_nat (k : Nat) : decI (k : Int) = decT k := by unfold decI decT; rw [Lib.itoa_nonneg]
theorem decT_big {i : Nat} (h : 10 ≤ i) : decT i = decT (i / 10) ++ [((48 + i % 10 : Nat) : Int)] := by
  unfold decT bytI
  rw [Lib.decDigits, dif_neg (by omega)]
  simp
  omega
theorem decT_len3 {i : Nat} (h : i < 1000) : (decT i).length ≤ 3 := by
  by_cases h2 : i < 100
  · have := decT_len h2; omega
  · have := decT_len (i := i / 10) (by omega)
    rw [decT_big (by omega)]
    simp; omega
theorem decimalG {H : List Blk} (hp : Pow H) {i : Int} (h0 : -1000000 ≤ i) (h1 : i ≤ 1000000) : Cal Tryz.prog 36 [.v (.int .i64 i)] H fun u H' => u = .v (.string (bstr (decI i))) ∧ H' = H := by
  rw [bstr_decI]
  refine cal_fn 4 mixed Tryz.func36 Tryz.ntmps36 Tryz.results36 rfl rfl rfl fun hw cx hx hq => ?_
  repeat (first | (simp only [go_sem, Int.reduceLT, Int.reduceLE, Int.reduceEq, Int.reduceToNat]) | ((with_reducible refine isSK ?_); refine call_ret (fmtIntG hp h0 h1) ?_ ?_) )
  refine ret_same hq _ (.inl rfl) ?_
  simp [go_sem]
end Go.Proofs.YtaekjojblkhfdaaGreatDoor
