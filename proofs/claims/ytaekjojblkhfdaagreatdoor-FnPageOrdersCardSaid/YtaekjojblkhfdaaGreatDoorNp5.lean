/- Contracts of functions of the translated program, by the walk. -/
import Derived.Test.YtaekjojblkhfdaaGreatDoorNp4
set_option linter.unusedVariables false
set_option linter.unusedSimpArgs false
set_option maxRecDepth 8000
set_option maxHeartbeats 16000000
namespace Go.Proofs.YtaekjojblkhfdaaGreatDoor
open Go Go.Sx
theorem srt_triv {k : Int → Int} {g : Nat → Int} {a s d : Nat} (h1 : Srt k g a s) (h2 : Srt k g s d) (h : a = s ∨ s = d) : Srt k g a d := by
  rcases h with rfl | rfl
  · exact h2
  · exact h1
def restC : Nat → Code → Code
  | n + 1, .seq _ b => restC n b
  | _, c => c
def graftC : Nat → Code → Code → Code
  | n + 1, .seq a b, t => .seq a (graftC n b t)
  | _, _, t => t
theorem graft_rest : ∀ (n : Nat) (c : Code), graftC n c (restC n c) = c
  | 0, c => by unfold graftC restC; rfl
  | n + 1, c => by
    cases c <;> simp [graftC, restC]
    exact graft_rest n _
theorem WK_cut {P : Program} {x : Cx} {k : List Kt} {s : St} (n : Nat) {c T : Code} (hT : T = restC n c) (h : WK P x k (graftC n c T) s) : WK P x k c s := by
  rw [hT, graft_rest] at h; exact h
set_option maxHeartbeats 4000000 in
theorem symTail {H : List Blk} {cx : Cx} {g5 g6 g7 g8 g9 g10 g11 g12 g13 g14 g15 g16 g17 g22 g23 g24 g25 g26 g27 g28 g29 g30 g31 g32 g33 g34 g35 g36 g37 g38 g39 g40 g41 g42 g43 g44 g45 g46 g47 g48 g49 g50 g51 g52 g53 g54 g55 g56 g57 g58 g59 g60 g61 g62 g63 g64 g65 g66 g67 g68 g69 g70 g71 g72 g73 g74 g75 g76 g77 g78 g79 g80 g81 g82 g83 g84 g85 g86 g87 g88 g89 g90 g91 g92 g93 g94 g95 g96 g97 g98 g99 g100 g101 g102 g103 g104 g105 g106 g107 g108 g109 g110 g111 g112 g113 g114 g115 g116 g117 g118 g119 g120 g121 g122 g123 g124 g125 g126 g127 g128 g129 g130 g131 g132 g133 g134 g135 g136 g137 g138 g139 g140 g141 g142 g143 g144 g145 g146 g147 g148 g149 g150 g151 g152 g153 g154 g155 g156 g157 g158 g159 g160 g161 g162 g163 g164 g165 g166 g167 g168 g169 g170 g171 g172 g173 g174 g175 g176 g177 g178 g179 g180 g181 g182 g183 g184 g185 g186 g187 g188 g189 g190 g191 g192 g193 g194 g195 g196 g197 g198 g199 g200 g201 g202 g203 g204 g205 g206 g207 g208 g209 g210 g211 g212 g213 g214 g215 g216 g217 g218 g219 : V} {f : Nat → Int} {a m b d lo0 hi0 w : Nat} {bi N : Nat} {ty : TypeId} {kd : BK} {c : Cap} {fn : Nat} {cs : List V} {kf : Int → Int} {D : Int → Prop} (hlt : bi < H.length) (hk : kd.mut = true) (hN : N ≤ 1000) (hcs : cs.all V.solid = true)
    (hf : ∀ (g : Nat → Int) (x y : Int), D x → D y → Cal Tryz.prog fn ([.v (.int .i64 x), .v (.int .i64 y)] ++ cs) (H.set bi ⟨rowL .i64 N (g), ty, kd⟩) fun u H' => u = .v (.int .i64 (cmpI (kf x) (kf y))) ∧ H' = H.set bi ⟨rowL .i64 N (g), ty, kd⟩) (hD : ∀ x, x < N → D (f x)) (ham : a < m) (hmb : m < b) (hbn : b ≤ N) (hl : Srt kf f a m) (hr : Srt kf f m b) (hc : Crs kf f a m b)
    (hd : d = (a + b) / 2) (hlo0 : lo0 = if d < m then d + m - b else a) (hhi0 : hi0 = if d < m then d else m) (h1 : ¬ m = a + 1) (h2 : ¬ b = m + 1) (hw9 : b - a ≤ w + 1)
    (ih : ∀ {f : Nat → Int} {a m b : Nat} {xa xm xb : Int} (hw9 : b - a ≤ w) (hD : ∀ x, x < N → D (f x)) (ha : xa = a) (hm : xm = m) (hb2 : xb = b) (ham : a < m) (hmb : m < b) (hbn : b ≤ N) (hl : Srt kf f a m) (hr : Srt kf f m b) (hc : Crs kf f a m b), Cal Tryz.prog 114 [.s bi 0 N c, .v (.int .i64 xa), .v (.int .i64 xm), .v (.int .i64 xb), .f fn cs] (H.set bi ⟨rowL .i64 N (f), ty, kd⟩) fun u H' => ∃ g, Mix f g a b ∧ Srt kf g a b ∧ u = .t [] ∧ H' = H.set bi ⟨rowL .i64 N (g), ty, kd⟩)
    (hq : ∀ e s, fin Tryz.prog (H.set bi ⟨rowL .i64 N (f), ty, kd⟩).length [] (fun u H' => ∃ g, Mix f g a b ∧ Srt kf g a b ∧ u = .t [] ∧ H' = H.set bi ⟨rowL .i64 N (g), ty, kd⟩) e s → cx.Q e s) :
    WK Tryz.prog cx [] (restC 6 (Tryz.f114.body.getD .skip)) ⟨[.s bi 0 N c, .v (.int .i64 (a : Int)), .v (.int .i64 (m : Int)), .v (.int .i64 (b : Int)), .f fn cs, g5, g6, g7, g8, g9, g10, g11, g12, g13, g14, g15, g16, g17, .v (.int .i64 (d : Int)), .v (.int .i64 ((d : Int) + (m : Int))), .v (.int .i64 (lo0 : Int)), .v (.int .i64 (hi0 : Int)), g22, g23, g24, g25, g26, g27, g28, g29, g30, g31, g32, g33, g34, g35, g36, g37, g38, g39, g40, g41, g42, g43, g44, g45, g46, g47, g48, g49, g50, g51, g52, g53, g54, g55, g56, g57, g58, g59, g60, g61, g62, g63, g64, g65, g66, g67, g68, g69, g70, g71, g72, g73, g74, g75, g76, g77, g78, g79, g80, g81, g82, g83, g84, g85, g86, g87, g88, g89, g90, g91, g92, g93, g94, g95, g96, g97, g98, g99, g100, g101, g102, g103, g104, g105, g106, g107, g108, g109, g110, g111, g112, g113, g114, g115, g116, g117, g118, g119, g120, g121, g122, g123, g124, g125, g126, g127, g128, g129, g130, g131, g132, g133, g134, g135, g136, g137, g138, g139, g140, g141, g142, g143, g144, g145, g146, g147, g148, g149, g150, g151, g152, g153, g154, g155, g156, g157, g158, g159, g160, g161, g162, g163, g164, g165, g166, g167, g168, g169, g170, g171, g172, g173, g174, g175, g176, g177, g178, g179, g180, g181, g182, g183, g184, g185, g186, g187, g188, g189, g190, g191, g192, g193, g194, g195, g196, g197, g198, g199, g200, g201, g202, g203, g204, g205, g206, g207, g208, g209, g210, g211, g212, g213, g214, g215, g216, g217, g218, g219], H.set bi ⟨rowL .i64 N (f), ty, kd⟩⟩ := by
  have hgs : ∀ b : Blk, (H.set bi b)[bi]? = some b := fun b => List.getElem?_set_self hlt
  have hlive : kd.live = true := by cases kd <;> first | rfl | cases hk
  have hb0 : Tryz.f114.body = some _ := rfl
  rw [hb0]
  simp only [Option.getD_some, restC]
  have hrange : a ≤ lo0 ∧ lo0 ≤ hi0 ∧ hi0 ≤ m ∧ hi0 ≤ d ∧ (∀ x, lo0 ≤ x → x < hi0 → x + 1 ≤ d ∧ m ≤ d + m - 1 - x ∧ d + m - 1 - x < b) ∧ d + m ≤ b + lo0 := by
    rw [hlo0, hhi0]; split <;> refine ⟨by omega, by omega, by omega, by omega, fun x h1 h2 => by omega, by omega⟩
  have hend1 : ∀ x, a < x → d + m - x < b → lo0 ≤ x → lo0 < x := fun x k1 k2 k3 => by
    rw [hlo0] at k3 ⊢; split at k3 <;> split <;> omega
  have hend2 : ∀ x, x < m → m < d + m - x → x ≤ hi0 → x < hi0 := fun x k1 k2 k3 => by
    rw [hhi0] at k3 ⊢; split at k3 <;> split <;> omega
  clear hlo0 hhi0
  repeat (first | (simp only [go_sem, Int.reduceLT, Int.reduceLE, Int.reduceEq, Int.reduceToNat, hcs]) | ((with_reducible refine And.intro ?_ ?_); omega) )
  refine WK_for (fun s : Nat × Nat => ⟨[.s bi 0 N c, .v (.int .i64 (a : Int)), .v (.int .i64 (m : Int)), .v (.int .i64 (b : Int)), .f fn cs, .any, .any, .any, .any, .any, .any, .any, .any, .any, .any, .any, .any, .any, .v (.int .i64 d), .v (.int .i64 ((d : Int) + (m : Int))), .v (.int .i64 s.1), .v (.int .i64 s.2), .v (.int .i64 ((d : Int) + (m : Int) - 1))] ++ junk 197, H.set bi ⟨rowL .i64 N (f), ty, kd⟩⟩) (fun s => (lo0 ≤ s.1 ∧ s.1 ≤ s.2 ∧ s.2 ≤ hi0) ∧ (lo0 < s.1 → ¬ kf (f (d + m - 1 - (s.1 - 1))) < kf (f (s.1 - 1))) ∧ (s.2 < hi0 → kf (f (d + m - 1 - s.2)) < kf (f s.2))) (fun s => s.2 - s.1) (lo0, hi0) (Weak.slots ?_) ⟨by dsimp only; omega, fun h => absurd h (Nat.lt_irrefl _), fun h => absurd h (Nat.lt_irrefl _)⟩ fun s hs => ?_
  · simp [go_sem]
  obtain ⟨s, j⟩ := s
  obtain ⟨hij, hA, hB⟩ := hs
  simp only at hij hA hB ⊢
  rcases Int.lt_or_le (s : Int) j with hcc | hcc
  · obtain ⟨h, hh⟩ : ∃ h, h = (s + j) / 2 := ⟨_, rfl⟩
    have d1 := half_u s j (by omega)
    have d2 := half_d s j
    rw [← hh] at d2
    have hrr := hrange.2.2.2.2.1 h (by omega) (by omega)
    have g1 : h < N := by omega
    have g2 : d + m - 1 - h < N := by omega
    have t1 : ((d : Int) + (m : Int) - 1 - (h : Int)).toNat = d + m - 1 - h := by omega
    have hcl := hf f (f (d + m - 1 - h)) (f h) (hD _ g2) (hD _ g1)
    by_cases e2 : kf (f (d + m - 1 - h)) < kf (f h)
    · rw [cmpI_neg e2] at hcl
      repeat (first | (simp only [go_sem, Int.reduceLT, Int.reduceLE, Int.reduceEq, Int.reduceToNat, hcc, hgs, hk, hlive, hcs, List.set_set, rowL_length, d1, d2, t1, rowL_cel _ _ _ g1, rowL_cel _ _ _ g2]) | ((with_reducible refine And.intro ?_ ?_); omega) | ((with_reducible refine isSK ?_); refine call_ret (hcl) ?_ ?_) | ((with_reducible refine isWKr (id := 35) ?_); refine WK_drawUp 35 [[],[],[],[],[2,3],[1,2,3,4],[1,2,3,4,5],[],[],[7,8],[7,8,9],[0,1,2,3,4,5,6,7,8,9,10],[0,1,2,3,4,5,6,7,8,9,10,11],[0,1,2,3,4,5,6,7,8,9,10,11,12]] 11 (by kernel_rfl) ?_; dsimp only [List.take, List.drop]) )
      refine EK_again (s, h) (Weak.slots ?_) ⟨by dsimp only; omega, hA, fun _ => e2⟩ (by dsimp only; omega)
      simp [go_sem]
    · obtain ⟨z, hz⟩ : ∃ z, cmpI (kf (f (d + m - 1 - h))) (kf (f h)) = z := ⟨_, rfl⟩
      have hz0 := cmpI_pos e2
      rw [hz] at hcl hz0
      have hz1 : (z < 0) = False := eq_false (by omega)
      repeat (first | (simp only [go_sem, Int.reduceLT, Int.reduceLE, Int.reduceEq, Int.reduceToNat, hcc, hz1, hgs, hk, hlive, hcs, List.set_set, rowL_length, d1, d2, t1, rowL_cel _ _ _ g1, rowL_cel _ _ _ g2]) | ((with_reducible refine And.intro ?_ ?_); omega) | ((with_reducible refine isSK ?_); refine call_ret (hcl) ?_ ?_) | ((with_reducible refine isWKr (id := 35) ?_); refine WK_drawUp 35 [[],[],[],[],[2,3],[1,2,3,4],[1,2,3,4,5],[],[],[7,8],[7,8,9],[0,1,2,3,4,5,6,7,8,9,10],[0,1,2,3,4,5,6,7,8,9,10,11],[0,1,2,3,4,5,6,7,8,9,10,11,12]] 11 (by kernel_rfl) ?_; dsimp only [List.take, List.drop]) )
      refine EK_again (h + 1, j) (Weak.slots ?_) ⟨by dsimp only; omega, fun _ => by dsimp only; rw [Nat.add_sub_cancel]; exact e2, hB⟩ (by dsimp only; omega)
      simp [go_sem]
  obtain rfl : s = j := by omega
  have hsr2 : ((s : Int) < (s : Int)) = False := eq_false (by omega)
  obtain ⟨e, he⟩ : ∃ e, e = d + m - s := ⟨_, rfl⟩
  have hen : (d : Int) + (m : Int) - (s : Int) = (e : Int) := by omega
  have hams : a ≤ s ∧ s ≤ m := by omega
  have hmbe : m ≤ e ∧ e ≤ b := by omega
  have hde : d = s + (e - m) := by omega
  have F1 : a < s → e < b → kf (f (s - 1)) ≤ kf (f e) := fun k1 k2 => by
    have := hA (hend1 s k1 (by omega) (by omega))
    rw [show d + m - 1 - (s - 1) = e by omega] at this
    omega
  have F2 : s < m → m < e → kf (f (e - 1)) < kf (f s) := fun k1 k2 => by
    have := hB (hend2 s k1 (by omega) (by omega))
    rwa [show d + m - 1 - s = e - 1 by omega] at this
  have hlo := sym_lo hl hr hc hams hmbe hde
  have hhi := fun g => sym_hi (g := g) hl hr hc hams hmbe hde
  have htriv := srt_triv hlo.1 hlo.2.1
  have hhi1 : ∀ g, (d = e ∨ e = b) → (Srt kf g d e ∧ Srt kf g e b ∧ Crs kf g d e b) → Srt kf g d b := fun g h h2 => srt_triv h2.1 h2.2.1 h
  have hmixr := Mix.rot f (a := s) (m := m) (b := e) (by omega)
  have hfin := fun g1 g2 => sym_ok (g1 := g1) (g2 := g2) hl hr hc hams hmbe hde F1 F2
  clear hA hB F1 F2 hend1 hend2 hrange
  rcases (show s = m ∨ (s < m ∧ m = e) ∨ (s < m ∧ m < e) by omega) with k1 | k1 | k1
  · -- s = m
    rcases (show a = s ∨ (a < s ∧ s = d) ∨ (a < s ∧ s < d) by omega) with k2 | k2 | k2
    · rcases (show d = e ∨ (d < e ∧ e = b) ∨ (d < e ∧ e < b) by omega) with k3 | k3 | k3
      · have q1 : ((s : Int) < (m : Int)) = False := eq_false (by omega)
        have q3 : ((a : Int) < (s : Int)) = False := eq_false (by omega)
        have q5 : ((d : Int) < (e : Int)) = False := eq_false (by omega)
        have hro := roF_id f (a := s) (m := m) (b := e) (by omega) (by omega)
        rw [hro] at hlo hhi htriv hmixr hfin
        repeat (first | (simp only [go_sem, Int.reduceLT, Int.reduceLE, Int.reduceEq, Int.reduceToNat, hgs, hk, hlive, hcs, List.set_set, rowL_length, hen, hsr2, q1, q3, q5]) | ((with_reducible refine And.intro ?_ ?_); omega) )
        have mx1 := Mix.refl f a d
        have s1 : Srt kf f a d := htriv (by omega)
        have hh1 := hhi f fun x hx => mx1.out x (.inr hx)
        have mx2 := Mix.refl f d b
        have s2 : Srt kf f d b := hhi1 f (by omega) hh1
        refine ret_at hq _ (.inr rfl) (by simp) ?_
        simp only [go_sem]
        exact ⟨f, (hmixr.wide (by omega) (by omega)).trans ((mx1.wide (Nat.le_refl _) (by omega)).trans (mx2.wide (by omega) (Nat.le_refl _))), hfin f f mx1 s1 mx2 s2, rfl⟩
      · have q1 : ((s : Int) < (m : Int)) = False := eq_false (by omega)
        have q3 : ((a : Int) < (s : Int)) = False := eq_false (by omega)
        have q5 : ((d : Int) < (e : Int)) = True := eq_true (by omega)
        have q6 : ((e : Int) < (b : Int)) = False := eq_false (by omega)
        have hro := roF_id f (a := s) (m := m) (b := e) (by omega) (by omega)
        rw [hro] at hlo hhi htriv hmixr hfin
        repeat (first | (simp only [go_sem, Int.reduceLT, Int.reduceLE, Int.reduceEq, Int.reduceToNat, hgs, hk, hlive, hcs, List.set_set, rowL_length, hen, hsr2, q1, q3, q5, q6]) | ((with_reducible refine And.intro ?_ ?_); omega) )
        have mx1 := Mix.refl f a d
        have s1 : Srt kf f a d := htriv (by omega)
        have hh1 := hhi f fun x hx => mx1.out x (.inr hx)
        have mx2 := Mix.refl f d b
        have s2 : Srt kf f d b := hhi1 f (by omega) hh1
        refine ret_at hq _ (.inr rfl) (by simp) ?_
        simp only [go_sem]
        exact ⟨f, (hmixr.wide (by omega) (by omega)).trans ((mx1.wide (Nat.le_refl _) (by omega)).trans (mx2.wide (by omega) (Nat.le_refl _))), hfin f f mx1 s1 mx2 s2, rfl⟩
      · have q1 : ((s : Int) < (m : Int)) = False := eq_false (by omega)
        have q3 : ((a : Int) < (s : Int)) = False := eq_false (by omega)
        have q5 : ((d : Int) < (e : Int)) = True := eq_true (by omega)
        have q6 : ((e : Int) < (b : Int)) = True := eq_true (by omega)
        have hro := roF_id f (a := s) (m := m) (b := e) (by omega) (by omega)
        rw [hro] at hlo hhi htriv hmixr hfin
        repeat (first | (simp only [go_sem, Int.reduceLT, Int.reduceLE, Int.reduceEq, Int.reduceToNat, hgs, hk, hlive, hcs, List.set_set, rowL_length, hen, hsr2, q1, q3, q5, q6]) | ((with_reducible refine And.intro ?_ ?_); omega) )
        have mx1 := Mix.refl f a d
        have s1 : Srt kf f a d := htriv (by omega)
        have hh1 := hhi f fun x hx => mx1.out x (.inr hx)
        refine call_ex (ih (f := f) (a := d) (m := e) (b := b) (by omega) (mx1.dom (by omega) (hmixr.dom (by omega) hD)) rfl rfl rfl (by omega) (by omega) (by omega) hh1.1 hh1.2.1 hh1.2.2) (by simp only [go_sem, hcs]) ?_
        rintro _ _ ⟨g2, mx2, s2, rfl, rfl⟩
        repeat ((simp only [go_sem, Int.reduceLT, Int.reduceLE, Int.reduceEq, Int.reduceToNat, hgs, hk, hlive, hcs, List.set_set, rowL_length, hen, hsr2, q1, q3, q5, q6]) )
        refine ret_at hq _ (.inr rfl) (by simp) ?_
        simp only [go_sem]
        exact ⟨g2, (hmixr.wide (by omega) (by omega)).trans ((mx1.wide (Nat.le_refl _) (by omega)).trans (mx2.wide (by omega) (Nat.le_refl _))), hfin f g2 mx1 s1 mx2 s2, rfl⟩
    · rcases (show d = e ∨ (d < e ∧ e = b) ∨ (d < e ∧ e < b) by omega) with k3 | k3 | k3
      · have q1 : ((s : Int) < (m : Int)) = False := eq_false (by omega)
        have q3 : ((a : Int) < (s : Int)) = True := eq_true (by omega)
        have q4 : ((s : Int) < (d : Int)) = False := eq_false (by omega)
        have q5 : ((d : Int) < (e : Int)) = False := eq_false (by omega)
        have hro := roF_id f (a := s) (m := m) (b := e) (by omega) (by omega)
        rw [hro] at hlo hhi htriv hmixr hfin
        repeat (first | (simp only [go_sem, Int.reduceLT, Int.reduceLE, Int.reduceEq, Int.reduceToNat, hgs, hk, hlive, hcs, List.set_set, rowL_length, hen, hsr2, q1, q3, q4, q5]) | ((with_reducible refine And.intro ?_ ?_); omega) )
        have mx1 := Mix.refl f a d
        have s1 : Srt kf f a d := htriv (by omega)
        have hh1 := hhi f fun x hx => mx1.out x (.inr hx)
        have mx2 := Mix.refl f d b
        have s2 : Srt kf f d b := hhi1 f (by omega) hh1
        refine ret_at hq _ (.inr rfl) (by simp) ?_
        simp only [go_sem]
        exact ⟨f, (hmixr.wide (by omega) (by omega)).trans ((mx1.wide (Nat.le_refl _) (by omega)).trans (mx2.wide (by omega) (Nat.le_refl _))), hfin f f mx1 s1 mx2 s2, rfl⟩
      · have q1 : ((s : Int) < (m : Int)) = False := eq_false (by omega)
        have q3 : ((a : Int) < (s : Int)) = True := eq_true (by omega)
        have q4 : ((s : Int) < (d : Int)) = False := eq_false (by omega)
        have q5 : ((d : Int) < (e : Int)) = True := eq_true (by omega)
        have q6 : ((e : Int) < (b : Int)) = False := eq_false (by omega)
        have hro := roF_id f (a := s) (m := m) (b := e) (by omega) (by omega)
        rw [hro] at hlo hhi htriv hmixr hfin
        repeat (first | (simp only [go_sem, Int.reduceLT, Int.reduceLE, Int.reduceEq, Int.reduceToNat, hgs, hk, hlive, hcs, List.set_set, rowL_length, hen, hsr2, q1, q3, q4, q5, q6]) | ((with_reducible refine And.intro ?_ ?_); omega) )
        have mx1 := Mix.refl f a d
        have s1 : Srt kf f a d := htriv (by omega)
        have hh1 := hhi f fun x hx => mx1.out x (.inr hx)
        have mx2 := Mix.refl f d b
        have s2 : Srt kf f d b := hhi1 f (by omega) hh1
        refine ret_at hq _ (.inr rfl) (by simp) ?_
        simp only [go_sem]
        exact ⟨f, (hmixr.wide (by omega) (by omega)).trans ((mx1.wide (Nat.le_refl _) (by omega)).trans (mx2.wide (by omega) (Nat.le_refl _))), hfin f f mx1 s1 mx2 s2, rfl⟩
      · have q1 : ((s : Int) < (m : Int)) = False := eq_false (by omega)
        have q3 : ((a : Int) < (s : Int)) = True := eq_true (by omega)
        have q4 : ((s : Int) < (d : Int)) = False := eq_false (by omega)
        have q5 : ((d : Int) < (e : Int)) = True := eq_true (by omega)
        have q6 : ((e : Int) < (b : Int)) = True := eq_true (by omega)
        have hro := roF_id f (a := s) (m := m) (b := e) (by omega) (by omega)
        rw [hro] at hlo hhi htriv hmixr hfin
        repeat (first | (simp only [go_sem, Int.reduceLT, Int.reduceLE, Int.reduceEq, Int.reduceToNat, hgs, hk, hlive, hcs, List.set_set, rowL_length, hen, hsr2, q1, q3, q4, q5, q6]) | ((with_reducible refine And.intro ?_ ?_); omega) )
        have mx1 := Mix.refl f a d
        have s1 : Srt kf f a d := htriv (by omega)
        have hh1 := hhi f fun x hx => mx1.out x (.inr hx)
        refine call_ex (ih (f := f) (a := d) (m := e) (b := b) (by omega) (mx1.dom (by omega) (hmixr.dom (by omega) hD)) rfl rfl rfl (by omega) (by omega) (by omega) hh1.1 hh1.2.1 hh1.2.2) (by simp only [go_sem, hcs]) ?_
        rintro _ _ ⟨g2, mx2, s2, rfl, rfl⟩
        repeat ((simp only [go_sem, Int.reduceLT, Int.reduceLE, Int.reduceEq, Int.reduceToNat, hgs, hk, hlive, hcs, List.set_set, rowL_length, hen, hsr2, q1, q3, q4, q5, q6]) )
        refine ret_at hq _ (.inr rfl) (by simp) ?_
        simp only [go_sem]
        exact ⟨g2, (hmixr.wide (by omega) (by omega)).trans ((mx1.wide (Nat.le_refl _) (by omega)).trans (mx2.wide (by omega) (Nat.le_refl _))), hfin f g2 mx1 s1 mx2 s2, rfl⟩
    · rcases (show d = e ∨ (d < e ∧ e = b) ∨ (d < e ∧ e < b) by omega) with k3 | k3 | k3
      · have q1 : ((s : Int) < (m : Int)) = False := eq_false (by omega)
        have q3 : ((a : Int) < (s : Int)) = True := eq_true (by omega)
        have q4 : ((s : Int) < (d : Int)) = True := eq_true (by omega)
        have q5 : ((d : Int) < (e : Int)) = False := eq_false (by omega)
        have hro := roF_id f (a := s) (m := m) (b := e) (by omega) (by omega)
        rw [hro] at hlo hhi htriv hmixr hfin
        repeat (first | (simp only [go_sem, Int.reduceLT, Int.reduceLE, Int.reduceEq, Int.reduceToNat, hgs, hk, hlive, hcs, List.set_set, rowL_length, hen, hsr2, q1, q3, q4, q5]) | ((with_reducible refine And.intro ?_ ?_); omega) )
        refine call_ex (ih (f := f) (a := a) (m := s) (b := d) (by omega) (hmixr.dom (by omega) hD) rfl rfl rfl (by omega) (by omega) (by omega) hlo.1 hlo.2.1 hlo.2.2) (by simp only [go_sem, hcs]) ?_
        rintro _ _ ⟨g1, mx1, s1, rfl, rfl⟩
        repeat ((simp only [go_sem, Int.reduceLT, Int.reduceLE, Int.reduceEq, Int.reduceToNat, hgs, hk, hlive, hcs, List.set_set, rowL_length, hen, hsr2, q1, q3, q4, q5]) )
        have hh1 := hhi g1 fun x hx => mx1.out x (.inr hx)
        have mx2 := Mix.refl g1 d b
        have s2 : Srt kf g1 d b := hhi1 g1 (by omega) hh1
        refine ret_at hq _ (.inr rfl) (by simp) ?_
        simp only [go_sem]
        exact ⟨g1, (hmixr.wide (by omega) (by omega)).trans ((mx1.wide (Nat.le_refl _) (by omega)).trans (mx2.wide (by omega) (Nat.le_refl _))), hfin g1 g1 mx1 s1 mx2 s2, rfl⟩
      · have q1 : ((s : Int) < (m : Int)) = False := eq_false (by omega)
        have q3 : ((a : Int) < (s : Int)) = True := eq_true (by omega)
        have q4 : ((s : Int) < (d : Int)) = True := eq_true (by omega)
        have q5 : ((d : Int) < (e : Int)) = True := eq_true (by omega)
        have q6 : ((e : Int) < (b : Int)) = False := eq_false (by omega)
        have hro := roF_id f (a := s) (m := m) (b := e) (by omega) (by omega)
        rw [hro] at hlo hhi htriv hmixr hfin
        repeat (first | (simp only [go_sem, Int.reduceLT, Int.reduceLE, Int.reduceEq, Int.reduceToNat, hgs, hk, hlive, hcs, List.set_set, rowL_length, hen, hsr2, q1, q3, q4, q5, q6]) | ((with_reducible refine And.intro ?_ ?_); omega) )
        refine call_ex (ih (f := f) (a := a) (m := s) (b := d) (by omega) (hmixr.dom (by omega) hD) rfl rfl rfl (by omega) (by omega) (by omega) hlo.1 hlo.2.1 hlo.2.2) (by simp only [go_sem, hcs]) ?_
        rintro _ _ ⟨g1, mx1, s1, rfl, rfl⟩
        repeat ((simp only [go_sem, Int.reduceLT, Int.reduceLE, Int.reduceEq, Int.reduceToNat, hgs, hk, hlive, hcs, List.set_set, rowL_length, hen, hsr2, q1, q3, q4, q5, q6]) )
        have hh1 := hhi g1 fun x hx => mx1.out x (.inr hx)
        have mx2 := Mix.refl g1 d b
        have s2 : Srt kf g1 d b := hhi1 g1 (by omega) hh1
        refine ret_at hq _ (.inr rfl) (by simp) ?_
        simp only [go_sem]
        exact ⟨g1, (hmixr.wide (by omega) (by omega)).trans ((mx1.wide (Nat.le_refl _) (by omega)).trans (mx2.wide (by omega) (Nat.le_refl _))), hfin g1 g1 mx1 s1 mx2 s2, rfl⟩
      · have q1 : ((s : Int) < (m : Int)) = False := eq_false (by omega)
        have q3 : ((a : Int) < (s : Int)) = True := eq_true (by omega)
        have q4 : ((s : Int) < (d : Int)) = True := eq_true (by omega)
        have q5 : ((d : Int) < (e : Int)) = True := eq_true (by omega)
        have q6 : ((e : Int) < (b : Int)) = True := eq_true (by omega)
        have hro := roF_id f (a := s) (m := m) (b := e) (by omega) (by omega)
        rw [hro] at hlo hhi htriv hmixr hfin
        repeat (first | (simp only [go_sem, Int.reduceLT, Int.reduceLE, Int.reduceEq, Int.reduceToNat, hgs, hk, hlive, hcs, List.set_set, rowL_length, hen, hsr2, q1, q3, q4, q5, q6]) | ((with_reducible refine And.intro ?_ ?_); omega) )
        refine call_ex (ih (f := f) (a := a) (m := s) (b := d) (by omega) (hmixr.dom (by omega) hD) rfl rfl rfl (by omega) (by omega) (by omega) hlo.1 hlo.2.1 hlo.2.2) (by simp only [go_sem, hcs]) ?_
        rintro _ _ ⟨g1, mx1, s1, rfl, rfl⟩
        repeat ((simp only [go_sem, Int.reduceLT, Int.reduceLE, Int.reduceEq, Int.reduceToNat, hgs, hk, hlive, hcs, List.set_set, rowL_length, hen, hsr2, q1, q3, q4, q5, q6]) )
        have hh1 := hhi g1 fun x hx => mx1.out x (.inr hx)
        refine call_ex (ih (f := g1) (a := d) (m := e) (b := b) (by omega) (mx1.dom (by omega) (hmixr.dom (by omega) hD)) rfl rfl rfl (by omega) (by omega) (by omega) hh1.1 hh1.2.1 hh1.2.2) (by simp only [go_sem, hcs]) ?_
        rintro _ _ ⟨g2, mx2, s2, rfl, rfl⟩
        repeat ((simp only [go_sem, Int.reduceLT, Int.reduceLE, Int.reduceEq, Int.reduceToNat, hgs, hk, hlive, hcs, List.set_set, rowL_length, hen, hsr2, q1, q3, q4, q5, q6]) )
        refine ret_at hq _ (.inr rfl) (by simp) ?_
        simp only [go_sem]
        exact ⟨g2, (hmixr.wide (by omega) (by omega)).trans ((mx1.wide (Nat.le_refl _) (by omega)).trans (mx2.wide (by omega) (Nat.le_refl _))), hfin g1 g2 mx1 s1 mx2 s2, rfl⟩
  · -- s < m ∧ m = e
    rcases (show a = s ∨ (a < s ∧ s = d) ∨ (a < s ∧ s < d) by omega) with k2 | k2 | k2
    · rcases (show d = e ∨ (d < e ∧ e = b) ∨ (d < e ∧ e < b) by omega) with k3 | k3 | k3
      · have q1 : ((s : Int) < (m : Int)) = True := eq_true (by omega)
        have q2 : ((m : Int) < (e : Int)) = False := eq_false (by omega)
        have q3 : ((a : Int) < (s : Int)) = False := eq_false (by omega)
        have q5 : ((d : Int) < (e : Int)) = False := eq_false (by omega)
        have hro := roF_id f (a := s) (m := m) (b := e) (by omega) (by omega)
        rw [hro] at hlo hhi htriv hmixr hfin
        repeat (first | (simp only [go_sem, Int.reduceLT, Int.reduceLE, Int.reduceEq, Int.reduceToNat, hgs, hk, hlive, hcs, List.set_set, rowL_length, hen, hsr2, q1, q2, q3, q5]) | ((with_reducible refine And.intro ?_ ?_); omega) )
        have mx1 := Mix.refl f a d
        have s1 : Srt kf f a d := htriv (by omega)
        have hh1 := hhi f fun x hx => mx1.out x (.inr hx)
        have mx2 := Mix.refl f d b
        have s2 : Srt kf f d b := hhi1 f (by omega) hh1
        refine ret_at hq _ (.inr rfl) (by simp) ?_
        simp only [go_sem]
        exact ⟨f, (hmixr.wide (by omega) (by omega)).trans ((mx1.wide (Nat.le_refl _) (by omega)).trans (mx2.wide (by omega) (Nat.le_refl _))), hfin f f mx1 s1 mx2 s2, rfl⟩
      · have q1 : ((s : Int) < (m : Int)) = True := eq_true (by omega)
        have q2 : ((m : Int) < (e : Int)) = False := eq_false (by omega)
        have q3 : ((a : Int) < (s : Int)) = False := eq_false (by omega)
        have q5 : ((d : Int) < (e : Int)) = True := eq_true (by omega)
        have q6 : ((e : Int) < (b : Int)) = False := eq_false (by omega)
        have hro := roF_id f (a := s) (m := m) (b := e) (by omega) (by omega)
        rw [hro] at hlo hhi htriv hmixr hfin
        repeat (first | (simp only [go_sem, Int.reduceLT, Int.reduceLE, Int.reduceEq, Int.reduceToNat, hgs, hk, hlive, hcs, List.set_set, rowL_length, hen, hsr2, q1, q2, q3, q5, q6]) | ((with_reducible refine And.intro ?_ ?_); omega) )
        have mx1 := Mix.refl f a d
        have s1 : Srt kf f a d := htriv (by omega)
        have hh1 := hhi f fun x hx => mx1.out x (.inr hx)
        have mx2 := Mix.refl f d b
        have s2 : Srt kf f d b := hhi1 f (by omega) hh1
        refine ret_at hq _ (.inr rfl) (by simp) ?_
        simp only [go_sem]
        exact ⟨f, (hmixr.wide (by omega) (by omega)).trans ((mx1.wide (Nat.le_refl _) (by omega)).trans (mx2.wide (by omega) (Nat.le_refl _))), hfin f f mx1 s1 mx2 s2, rfl⟩
      · have q1 : ((s : Int) < (m : Int)) = True := eq_true (by omega)
        have q2 : ((m : Int) < (e : Int)) = False := eq_false (by omega)
        have q3 : ((a : Int) < (s : Int)) = False := eq_false (by omega)
        have q5 : ((d : Int) < (e : Int)) = True := eq_true (by omega)
        have q6 : ((e : Int) < (b : Int)) = True := eq_true (by omega)
        have hro := roF_id f (a := s) (m := m) (b := e) (by omega) (by omega)
        rw [hro] at hlo hhi htriv hmixr hfin
        repeat (first | (simp only [go_sem, Int.reduceLT, Int.reduceLE, Int.reduceEq, Int.reduceToNat, hgs, hk, hlive, hcs, List.set_set, rowL_length, hen, hsr2, q1, q2, q3, q5, q6]) | ((with_reducible refine And.intro ?_ ?_); omega) )
        have mx1 := Mix.refl f a d
        have s1 : Srt kf f a d := htriv (by omega)
        have hh1 := hhi f fun x hx => mx1.out x (.inr hx)
        refine call_ex (ih (f := f) (a := d) (m := e) (b := b) (by omega) (mx1.dom (by omega) (hmixr.dom (by omega) hD)) rfl rfl rfl (by omega) (by omega) (by omega) hh1.1 hh1.2.1 hh1.2.2) (by simp only [go_sem, hcs]) ?_
        rintro _ _ ⟨g2, mx2, s2, rfl, rfl⟩
        repeat ((simp only [go_sem, Int.reduceLT, Int.reduceLE, Int.reduceEq, Int.reduceToNat, hgs, hk, hlive, hcs, List.set_set, rowL_length, hen, hsr2, q1, q2, q3, q5, q6]) )
        refine ret_at hq _ (.inr rfl) (by simp) ?_
        simp only [go_sem]
        exact ⟨g2, (hmixr.wide (by omega) (by omega)).trans ((mx1.wide (Nat.le_refl _) (by omega)).trans (mx2.wide (by omega) (Nat.le_refl _))), hfin f g2 mx1 s1 mx2 s2, rfl⟩
    · rcases (show d = e ∨ (d < e ∧ e = b) ∨ (d < e ∧ e < b) by omega) with k3 | k3 | k3
      · have q1 : ((s : Int) < (m : Int)) = True := eq_true (by omega)
        have q2 : ((m : Int) < (e : Int)) = False := eq_false (by omega)
        have q3 : ((a : Int) < (s : Int)) = True := eq_true (by omega)
        have q4 : ((s : Int) < (d : Int)) = False := eq_false (by omega)
        have q5 : ((d : Int) < (e : Int)) = False := eq_false (by omega)
        have hro := roF_id f (a := s) (m := m) (b := e) (by omega) (by omega)
        rw [hro] at hlo hhi htriv hmixr hfin
        repeat (first | (simp only [go_sem, Int.reduceLT, Int.reduceLE, Int.reduceEq, Int.reduceToNat, hgs, hk, hlive, hcs, List.set_set, rowL_length, hen, hsr2, q1, q2, q3, q4, q5]) | ((with_reducible refine And.intro ?_ ?_); omega) )
        have mx1 := Mix.refl f a d
        have s1 : Srt kf f a d := htriv (by omega)
        have hh1 := hhi f fun x hx => mx1.out x (.inr hx)
        have mx2 := Mix.refl f d b
        have s2 : Srt kf f d b := hhi1 f (by omega) hh1
        refine ret_at hq _ (.inr rfl) (by simp) ?_
        simp only [go_sem]
        exact ⟨f, (hmixr.wide (by omega) (by omega)).trans ((mx1.wide (Nat.le_refl _) (by omega)).trans (mx2.wide (by omega) (Nat.le_refl _))), hfin f f mx1 s1 mx2 s2, rfl⟩
      · have q1 : ((s : Int) < (m : Int)) = True := eq_true (by omega)
        have q2 : ((m : Int) < (e : Int)) = False := eq_false (by omega)
        have q3 : ((a : Int) < (s : Int)) = True := eq_true (by omega)
        have q4 : ((s : Int) < (d : Int)) = False := eq_false (by omega)
        have q5 : ((d : Int) < (e : Int)) = True := eq_true (by omega)
        have q6 : ((e : Int) < (b : Int)) = False := eq_false (by omega)
        have hro := roF_id f (a := s) (m := m) (b := e) (by omega) (by omega)
        rw [hro] at hlo hhi htriv hmixr hfin
        repeat (first | (simp only [go_sem, Int.reduceLT, Int.reduceLE, Int.reduceEq, Int.reduceToNat, hgs, hk, hlive, hcs, List.set_set, rowL_length, hen, hsr2, q1, q2, q3, q4, q5, q6]) | ((with_reducible refine And.intro ?_ ?_); omega) )
        have mx1 := Mix.refl f a d
        have s1 : Srt kf f a d := htriv (by omega)
        have hh1 := hhi f fun x hx => mx1.out x (.inr hx)
        have mx2 := Mix.refl f d b
        have s2 : Srt kf f d b := hhi1 f (by omega) hh1
        refine ret_at hq _ (.inr rfl) (by simp) ?_
        simp only [go_sem]
        exact ⟨f, (hmixr.wide (by omega) (by omega)).trans ((mx1.wide (Nat.le_refl _) (by omega)).trans (mx2.wide (by omega) (Nat.le_refl _))), hfin f f mx1 s1 mx2 s2, rfl⟩
      · have q1 : ((s : Int) < (m : Int)) = True := eq_true (by omega)
        have q2 : ((m : Int) < (e : Int)) = False := eq_false (by omega)
        have q3 : ((a : Int) < (s : Int)) = True := eq_true (by omega)
        have q4 : ((s : Int) < (d : Int)) = False := eq_false (by omega)
        have q5 : ((d : Int) < (e : Int)) = True := eq_true (by omega)
        have q6 : ((e : Int) < (b : Int)) = True := eq_true (by omega)
        have hro := roF_id f (a := s) (m := m) (b := e) (by omega) (by omega)
        rw [hro] at hlo hhi htriv hmixr hfin
        repeat (first | (simp only [go_sem, Int.reduceLT, Int.reduceLE, Int.reduceEq, Int.reduceToNat, hgs, hk, hlive, hcs, List.set_set, rowL_length, hen, hsr2, q1, q2, q3, q4, q5, q6]) | ((with_reducible refine And.intro ?_ ?_); omega) )
        have mx1 := Mix.refl f a d
        have s1 : Srt kf f a d := htriv (by omega)
        have hh1 := hhi f fun x hx => mx1.out x (.inr hx)
        refine call_ex (ih (f := f) (a := d) (m := e) (b := b) (by omega) (mx1.dom (by omega) (hmixr.dom (by omega) hD)) rfl rfl rfl (by omega) (by omega) (by omega) hh1.1 hh1.2.1 hh1.2.2) (by simp only [go_sem, hcs]) ?_
        rintro _ _ ⟨g2, mx2, s2, rfl, rfl⟩
        repeat ((simp only [go_sem, Int.reduceLT, Int.reduceLE, Int.reduceEq, Int.reduceToNat, hgs, hk, hlive, hcs, List.set_set, rowL_length, hen, hsr2, q1, q2, q3, q4, q5, q6]) )
        refine ret_at hq _ (.inr rfl) (by simp) ?_
        simp only [go_sem]
        exact ⟨g2, (hmixr.wide (by omega) (by omega)).trans ((mx1.wide (Nat.le_refl _) (by omega)).trans (mx2.wide (by omega) (Nat.le_refl _))), hfin f g2 mx1 s1 mx2 s2, rfl⟩
    · rcases (show d = e ∨ (d < e ∧ e = b) ∨ (d < e ∧ e < b) by omega) with k3 | k3 | k3
      · have q1 : ((s : Int) < (m : Int)) = True := eq_true (by omega)
        have q2 : ((m : Int) < (e : Int)) = False := eq_false (by omega)
        have q3 : ((a : Int) < (s : Int)) = True := eq_true (by omega)
        have q4 : ((s : Int) < (d : Int)) = True := eq_true (by omega)
        have q5 : ((d : Int) < (e : Int)) = False := eq_false (by omega)
        have hro := roF_id f (a := s) (m := m) (b := e) (by omega) (by omega)
        rw [hro] at hlo hhi htriv hmixr hfin
        repeat (first | (simp only [go_sem, Int.reduceLT, Int.reduceLE, Int.reduceEq, Int.reduceToNat, hgs, hk, hlive, hcs, List.set_set, rowL_length, hen, hsr2, q1, q2, q3, q4, q5]) | ((with_reducible refine And.intro ?_ ?_); omega) )
        refine call_ex (ih (f := f) (a := a) (m := s) (b := d) (by omega) (hmixr.dom (by omega) hD) rfl rfl rfl (by omega) (by omega) (by omega) hlo.1 hlo.2.1 hlo.2.2) (by simp only [go_sem, hcs]) ?_
        rintro _ _ ⟨g1, mx1, s1, rfl, rfl⟩
        repeat ((simp only [go_sem, Int.reduceLT, Int.reduceLE, Int.reduceEq, Int.reduceToNat, hgs, hk, hlive, hcs, List.set_set, rowL_length, hen, hsr2, q1, q2, q3, q4, q5]) )
        have hh1 := hhi g1 fun x hx => mx1.out x (.inr hx)
        have mx2 := Mix.refl g1 d b
        have s2 : Srt kf g1 d b := hhi1 g1 (by omega) hh1
        refine ret_at hq _ (.inr rfl) (by simp) ?_
        simp only [go_sem]
        exact ⟨g1, (hmixr.wide (by omega) (by omega)).trans ((mx1.wide (Nat.le_refl _) (by omega)).trans (mx2.wide (by omega) (Nat.le_refl _))), hfin g1 g1 mx1 s1 mx2 s2, rfl⟩
      · have q1 : ((s : Int) < (m : Int)) = True := eq_true (by omega)
        have q2 : ((m : Int) < (e : Int)) = False := eq_false (by omega)
        have q3 : ((a : Int) < (s : Int)) = True := eq_true (by omega)
        have q4 : ((s : Int) < (d : Int)) = True := eq_true (by omega)
        have q5 : ((d : Int) < (e : Int)) = True := eq_true (by omega)
        have q6 : ((e : Int) < (b : Int)) = False := eq_false (by omega)
        have hro := roF_id f (a := s) (m := m) (b := e) (by omega) (by omega)
        rw [hro] at hlo hhi htriv hmixr hfin
        repeat (first | (simp only [go_sem, Int.reduceLT, Int.reduceLE, Int.reduceEq, Int.reduceToNat, hgs, hk, hlive, hcs, List.set_set, rowL_length, hen, hsr2, q1, q2, q3, q4, q5, q6]) | ((with_reducible refine And.intro ?_ ?_); omega) )
        refine call_ex (ih (f := f) (a := a) (m := s) (b := d) (by omega) (hmixr.dom (by omega) hD) rfl rfl rfl (by omega) (by omega) (by omega) hlo.1 hlo.2.1 hlo.2.2) (by simp only [go_sem, hcs]) ?_
        rintro _ _ ⟨g1, mx1, s1, rfl, rfl⟩
        repeat ((simp only [go_sem, Int.reduceLT, Int.reduceLE, Int.reduceEq, Int.reduceToNat, hgs, hk, hlive, hcs, List.set_set, rowL_length, hen, hsr2, q1, q2, q3, q4, q5, q6]) )
        have hh1 := hhi g1 fun x hx => mx1.out x (.inr hx)
        have mx2 := Mix.refl g1 d b
        have s2 : Srt kf g1 d b := hhi1 g1 (by omega) hh1
        refine ret_at hq _ (.inr rfl) (by simp) ?_
        simp only [go_sem]
        exact ⟨g1, (hmixr.wide (by omega) (by omega)).trans ((mx1.wide (Nat.le_refl _) (by omega)).trans (mx2.wide (by omega) (Nat.le_refl _))), hfin g1 g1 mx1 s1 mx2 s2, rfl⟩
      · have q1 : ((s : Int) < (m : Int)) = True := eq_true (by omega)
        have q2 : ((m : Int) < (e : Int)) = False := eq_false (by omega)
        have q3 : ((a : Int) < (s : Int)) = True := eq_true (by omega)
        have q4 : ((s : Int) < (d : Int)) = True := eq_true (by omega)
        have q5 : ((d : Int) < (e : Int)) = True := eq_true (by omega)
        have q6 : ((e : Int) < (b : Int)) = True := eq_true (by omega)
        have hro := roF_id f (a := s) (m := m) (b := e) (by omega) (by omega)
        rw [hro] at hlo hhi htriv hmixr hfin
        repeat (first | (simp only [go_sem, Int.reduceLT, Int.reduceLE, Int.reduceEq, Int.reduceToNat, hgs, hk, hlive, hcs, List.set_set, rowL_length, hen, hsr2, q1, q2, q3, q4, q5, q6]) | ((with_reducible refine And.intro ?_ ?_); omega) )
        refine call_ex (ih (f := f) (a := a) (m := s) (b := d) (by omega) (hmixr.dom (by omega) hD) rfl rfl rfl (by omega) (by omega) (by omega) hlo.1 hlo.2.1 hlo.2.2) (by simp only [go_sem, hcs]) ?_
        rintro _ _ ⟨g1, mx1, s1, rfl, rfl⟩
        repeat ((simp only [go_sem, Int.reduceLT, Int.reduceLE, Int.reduceEq, Int.reduceToNat, hgs, hk, hlive, hcs, List.set_set, rowL_length, hen, hsr2, q1, q2, q3, q4, q5, q6]) )
        have hh1 := hhi g1 fun x hx => mx1.out x (.inr hx)
        refine call_ex (ih (f := g1) (a := d) (m := e) (b := b) (by omega) (mx1.dom (by omega) (hmixr.dom (by omega) hD)) rfl rfl rfl (by omega) (by omega) (by omega) hh1.1 hh1.2.1 hh1.2.2) (by simp only [go_sem, hcs]) ?_
        rintro _ _ ⟨g2, mx2, s2, rfl, rfl⟩
        repeat ((simp only [go_sem, Int.reduceLT, Int.reduceLE, Int.reduceEq, Int.reduceToNat, hgs, hk, hlive, hcs, List.set_set, rowL_length, hen, hsr2, q1, q2, q3, q4, q5, q6]) )
        refine ret_at hq _ (.inr rfl) (by simp) ?_
        simp only [go_sem]
        exact ⟨g2, (hmixr.wide (by omega) (by omega)).trans ((mx1.wide (Nat.le_refl _) (by omega)).trans (mx2.wide (by omega) (Nat.le_refl _))), hfin g1 g2 mx1 s1 mx2 s2, rfl⟩
  · -- s < m ∧ m < e
    rcases (show a = s ∨ (a < s ∧ s = d) ∨ (a < s ∧ s < d) by omega) with k2 | k2 | k2
    · rcases (show d = e ∨ (d < e ∧ e = b) ∨ (d < e ∧ e < b) by omega) with k3 | k3 | k3
      · have q1 : ((s : Int) < (m : Int)) = True := eq_true (by omega)
        have q2 : ((m : Int) < (e : Int)) = True := eq_true (by omega)
        have q3 : ((a : Int) < (s : Int)) = False := eq_false (by omega)
        have q5 : ((d : Int) < (e : Int)) = False := eq_false (by omega)
        repeat (first | (simp only [go_sem, Int.reduceLT, Int.reduceLE, Int.reduceEq, Int.reduceToNat, hgs, hk, hlive, hcs, List.set_set, rowL_length, hen, hsr2, q1, q2, q3, q5]) | ((with_reducible refine And.intro ?_ ?_); omega) | ((with_reducible refine isSK ?_); refine call_ret (rotate (f := f) (a := s) (m := m) (b := e) (hgs _) hk hN hcs rfl rfl rfl (by omega) (by omega) (by omega)) ?_ ?_) )
        have mx1 := Mix.refl (roF f s m e) a d
        have s1 : Srt kf (roF f s m e) a d := htriv (by omega)
        have hh1 := hhi (roF f s m e) fun x hx => mx1.out x (.inr hx)
        have mx2 := Mix.refl (roF f s m e) d b
        have s2 : Srt kf (roF f s m e) d b := hhi1 (roF f s m e) (by omega) hh1
        refine ret_at hq _ (.inr rfl) (by simp) ?_
        simp only [go_sem]
        exact ⟨(roF f s m e), (hmixr.wide (by omega) (by omega)).trans ((mx1.wide (Nat.le_refl _) (by omega)).trans (mx2.wide (by omega) (Nat.le_refl _))), hfin (roF f s m e) (roF f s m e) mx1 s1 mx2 s2, rfl⟩
      · have q1 : ((s : Int) < (m : Int)) = True := eq_true (by omega)
        have q2 : ((m : Int) < (e : Int)) = True := eq_true (by omega)
        have q3 : ((a : Int) < (s : Int)) = False := eq_false (by omega)
        have q5 : ((d : Int) < (e : Int)) = True := eq_true (by omega)
        have q6 : ((e : Int) < (b : Int)) = False := eq_false (by omega)
        repeat (first | (simp only [go_sem, Int.reduceLT, Int.reduceLE, Int.reduceEq, Int.reduceToNat, hgs, hk, hlive, hcs, List.set_set, rowL_length, hen, hsr2, q1, q2, q3, q5, q6]) | ((with_reducible refine And.intro ?_ ?_); omega) | ((with_reducible refine isSK ?_); refine call_ret (rotate (f := f) (a := s) (m := m) (b := e) (hgs _) hk hN hcs rfl rfl rfl (by omega) (by omega) (by omega)) ?_ ?_) )
        have mx1 := Mix.refl (roF f s m e) a d
        have s1 : Srt kf (roF f s m e) a d := htriv (by omega)
        have hh1 := hhi (roF f s m e) fun x hx => mx1.out x (.inr hx)
        have mx2 := Mix.refl (roF f s m e) d b
        have s2 : Srt kf (roF f s m e) d b := hhi1 (roF f s m e) (by omega) hh1
        refine ret_at hq _ (.inr rfl) (by simp) ?_
        simp only [go_sem]
        exact ⟨(roF f s m e), (hmixr.wide (by omega) (by omega)).trans ((mx1.wide (Nat.le_refl _) (by omega)).trans (mx2.wide (by omega) (Nat.le_refl _))), hfin (roF f s m e) (roF f s m e) mx1 s1 mx2 s2, rfl⟩
      · have q1 : ((s : Int) < (m : Int)) = True := eq_true (by omega)
        have q2 : ((m : Int) < (e : Int)) = True := eq_true (by omega)
        have q3 : ((a : Int) < (s : Int)) = False := eq_false (by omega)
        have q5 : ((d : Int) < (e : Int)) = True := eq_true (by omega)
        have q6 : ((e : Int) < (b : Int)) = True := eq_true (by omega)
        repeat (first | (simp only [go_sem, Int.reduceLT, Int.reduceLE, Int.reduceEq, Int.reduceToNat, hgs, hk, hlive, hcs, List.set_set, rowL_length, hen, hsr2, q1, q2, q3, q5, q6]) | ((with_reducible refine And.intro ?_ ?_); omega) | ((with_reducible refine isSK ?_); refine call_ret (rotate (f := f) (a := s) (m := m) (b := e) (hgs _) hk hN hcs rfl rfl rfl (by omega) (by omega) (by omega)) ?_ ?_) )
        have mx1 := Mix.refl (roF f s m e) a d
        have s1 : Srt kf (roF f s m e) a d := htriv (by omega)
        have hh1 := hhi (roF f s m e) fun x hx => mx1.out x (.inr hx)
        refine call_ex (ih (f := (roF f s m e)) (a := d) (m := e) (b := b) (by omega) (mx1.dom (by omega) (hmixr.dom (by omega) hD)) rfl rfl rfl (by omega) (by omega) (by omega) hh1.1 hh1.2.1 hh1.2.2) (by simp only [go_sem, hcs]) ?_
        rintro _ _ ⟨g2, mx2, s2, rfl, rfl⟩
        repeat ((simp only [go_sem, Int.reduceLT, Int.reduceLE, Int.reduceEq, Int.reduceToNat, hgs, hk, hlive, hcs, List.set_set, rowL_length, hen, hsr2, q1, q2, q3, q5, q6]) )
        refine ret_at hq _ (.inr rfl) (by simp) ?_
        simp only [go_sem]
        exact ⟨g2, (hmixr.wide (by omega) (by omega)).trans ((mx1.wide (Nat.le_refl _) (by omega)).trans (mx2.wide (by omega) (Nat.le_refl _))), hfin (roF f s m e) g2 mx1 s1 mx2 s2, rfl⟩
    · rcases (show d = e ∨ (d < e ∧ e = b) ∨ (d < e ∧ e < b) by omega) with k3 | k3 | k3
      · have q1 : ((s : Int) < (m : Int)) = True := eq_true (by omega)
        have q2 : ((m : Int) < (e : Int)) = True := eq_true (by omega)
        have q3 : ((a : Int) < (s : Int)) = True := eq_true (by omega)
        have q4 : ((s : Int) < (d : Int)) = False := eq_false (by omega)
        have q5 : ((d : Int) < (e : Int)) = False := eq_false (by omega)
        repeat (first | (simp only [go_sem, Int.reduceLT, Int.reduceLE, Int.reduceEq, Int.reduceToNat, hgs, hk, hlive, hcs, List.set_set, rowL_length, hen, hsr2, q1, q2, q3, q4, q5]) | ((with_reducible refine And.intro ?_ ?_); omega) | ((with_reducible refine isSK ?_); refine call_ret (rotate (f := f) (a := s) (m := m) (b := e) (hgs _) hk hN hcs rfl rfl rfl (by omega) (by omega) (by omega)) ?_ ?_) )
        have mx1 := Mix.refl (roF f s m e) a d
        have s1 : Srt kf (roF f s m e) a d := htriv (by omega)
        have hh1 := hhi (roF f s m e) fun x hx => mx1.out x (.inr hx)
        have mx2 := Mix.refl (roF f s m e) d b
        have s2 : Srt kf (roF f s m e) d b := hhi1 (roF f s m e) (by omega) hh1
        refine ret_at hq _ (.inr rfl) (by simp) ?_
        simp only [go_sem]
        exact ⟨(roF f s m e), (hmixr.wide (by omega) (by omega)).trans ((mx1.wide (Nat.le_refl _) (by omega)).trans (mx2.wide (by omega) (Nat.le_refl _))), hfin (roF f s m e) (roF f s m e) mx1 s1 mx2 s2, rfl⟩
      · have q1 : ((s : Int) < (m : Int)) = True := eq_true (by omega)
        have q2 : ((m : Int) < (e : Int)) = True := eq_true (by omega)
        have q3 : ((a : Int) < (s : Int)) = True := eq_true (by omega)
        have q4 : ((s : Int) < (d : Int)) = False := eq_false (by omega)
        have q5 : ((d : Int) < (e : Int)) = True := eq_true (by omega)
        have q6 : ((e : Int) < (b : Int)) = False := eq_false (by omega)
        repeat (first | (simp only [go_sem, Int.reduceLT, Int.reduceLE, Int.reduceEq, Int.reduceToNat, hgs, hk, hlive, hcs, List.set_set, rowL_length, hen, hsr2, q1, q2, q3, q4, q5, q6]) | ((with_reducible refine And.intro ?_ ?_); omega) | ((with_reducible refine isSK ?_); refine call_ret (rotate (f := f) (a := s) (m := m) (b := e) (hgs _) hk hN hcs rfl rfl rfl (by omega) (by omega) (by omega)) ?_ ?_) )
        have mx1 := Mix.refl (roF f s m e) a d
        have s1 : Srt kf (roF f s m e) a d := htriv (by omega)
        have hh1 := hhi (roF f s m e) fun x hx => mx1.out x (.inr hx)
        have mx2 := Mix.refl (roF f s m e) d b
        have s2 : Srt kf (roF f s m e) d b := hhi1 (roF f s m e) (by omega) hh1
        refine ret_at hq _ (.inr rfl) (by simp) ?_
        simp only [go_sem]
        exact ⟨(roF f s m e), (hmixr.wide (by omega) (by omega)).trans ((mx1.wide (Nat.le_refl _) (by omega)).trans (mx2.wide (by omega) (Nat.le_refl _))), hfin (roF f s m e) (roF f s m e) mx1 s1 mx2 s2, rfl⟩
      · have q1 : ((s : Int) < (m : Int)) = True := eq_true (by omega)
        have q2 : ((m : Int) < (e : Int)) = True := eq_true (by omega)
        have q3 : ((a : Int) < (s : Int)) = True := eq_true (by omega)
        have q4 : ((s : Int) < (d : Int)) = False := eq_false (by omega)
        have q5 : ((d : Int) < (e : Int)) = True := eq_true (by omega)
        have q6 : ((e : Int) < (b : Int)) = True := eq_true (by omega)
        repeat (first | (simp only [go_sem, Int.reduceLT, Int.reduceLE, Int.reduceEq, Int.reduceToNat, hgs, hk, hlive, hcs, List.set_set, rowL_length, hen, hsr2, q1, q2, q3, q4, q5, q6]) | ((with_reducible refine And.intro ?_ ?_); omega) | ((with_reducible refine isSK ?_); refine call_ret (rotate (f := f) (a := s) (m := m) (b := e) (hgs _) hk hN hcs rfl rfl rfl (by omega) (by omega) (by omega)) ?_ ?_) )
        have mx1 := Mix.refl (roF f s m e) a d
        have s1 : Srt kf (roF f s m e) a d := htriv (by omega)
        have hh1 := hhi (roF f s m e) fun x hx => mx1.out x (.inr hx)
        refine call_ex (ih (f := (roF f s m e)) (a := d) (m := e) (b := b) (by omega) (mx1.dom (by omega) (hmixr.dom (by omega) hD)) rfl rfl rfl (by omega) (by omega) (by omega) hh1.1 hh1.2.1 hh1.2.2) (by simp only [go_sem, hcs]) ?_
        rintro _ _ ⟨g2, mx2, s2, rfl, rfl⟩
        repeat ((simp only [go_sem, Int.reduceLT, Int.reduceLE, Int.reduceEq, Int.reduceToNat, hgs, hk, hlive, hcs, List.set_set, rowL_length, hen, hsr2, q1, q2, q3, q4, q5, q6]) )
        refine ret_at hq _ (.inr rfl) (by simp) ?_
        simp only [go_sem]
        exact ⟨g2, (hmixr.wide (by omega) (by omega)).trans ((mx1.wide (Nat.le_refl _) (by omega)).trans (mx2.wide (by omega) (Nat.le_refl _))), hfin (roF f s m e) g2 mx1 s1 mx2 s2, rfl⟩
    · rcases (show d = e ∨ (d < e ∧ e = b) ∨ (d < e ∧ e < b) by omega) with k3 | k3 | k3
      · have q1 : ((s : Int) < (m : Int)) = True := eq_true (by omega)
        have q2 : ((m : Int) < (e : Int)) = True := eq_true (by omega)
        have q3 : ((a : Int) < (s : Int)) = True := eq_true (by omega)
        have q4 : ((s : Int) < (d : Int)) = True := eq_true (by omega)
        have q5 : ((d : Int) < (e : Int)) = False := eq_false (by omega)
        repeat (first | (simp only [go_sem, Int.reduceLT, Int.reduceLE, Int.reduceEq, Int.reduceToNat, hgs, hk, hlive, hcs, List.set_set, rowL_length, hen, hsr2, q1, q2, q3, q4, q5]) | ((with_reducible refine And.intro ?_ ?_); omega) | ((with_reducible refine isSK ?_); refine call_ret (rotate (f := f) (a := s) (m := m) (b := e) (hgs _) hk hN hcs rfl rfl rfl (by omega) (by omega) (by omega)) ?_ ?_) )
        refine call_ex (ih (f := (roF f s m e)) (a := a) (m := s) (b := d) (by omega) (hmixr.dom (by omega) hD) rfl rfl rfl (by omega) (by omega) (by omega) hlo.1 hlo.2.1 hlo.2.2) (by simp only [go_sem, hcs]) ?_
        rintro _ _ ⟨g1, mx1, s1, rfl, rfl⟩
        repeat ((simp only [go_sem, Int.reduceLT, Int.reduceLE, Int.reduceEq, Int.reduceToNat, hgs, hk, hlive, hcs, List.set_set, rowL_length, hen, hsr2, q1, q2, q3, q4, q5]) )
        have hh1 := hhi g1 fun x hx => mx1.out x (.inr hx)
        have mx2 := Mix.refl g1 d b
        have s2 : Srt kf g1 d b := hhi1 g1 (by omega) hh1
        refine ret_at hq _ (.inr rfl) (by simp) ?_
        simp only [go_sem]
        exact ⟨g1, (hmixr.wide (by omega) (by omega)).trans ((mx1.wide (Nat.le_refl _) (by omega)).trans (mx2.wide (by omega) (Nat.le_refl _))), hfin g1 g1 mx1 s1 mx2 s2, rfl⟩
      · have q1 : ((s : Int) < (m : Int)) = True := eq_true (by omega)
        have q2 : ((m : Int) < (e : Int)) = True := eq_true (by omega)
        have q3 : ((a : Int) < (s : Int)) = True := eq_true (by omega)
        have q4 : ((s : Int) < (d : Int)) = True := eq_true (by omega)
        have q5 : ((d : Int) < (e : Int)) = True := eq_true (by omega)
        have q6 : ((e : Int) < (b : Int)) = False := eq_false (by omega)
        repeat (first | (simp only [go_sem, Int.reduceLT, Int.reduceLE, Int.reduceEq, Int.reduceToNat, hgs, hk, hlive, hcs, List.set_set, rowL_length, hen, hsr2, q1, q2, q3, q4, q5, q6]) | ((with_reducible refine And.intro ?_ ?_); omega) | ((with_reducible refine isSK ?_); refine call_ret (rotate (f := f) (a := s) (m := m) (b := e) (hgs _) hk hN hcs rfl rfl rfl (by omega) (by omega) (by omega)) ?_ ?_) )
        refine call_ex (ih (f := (roF f s m e)) (a := a) (m := s) (b := d) (by omega) (hmixr.dom (by omega) hD) rfl rfl rfl (by omega) (by omega) (by omega) hlo.1 hlo.2.1 hlo.2.2) (by simp only [go_sem, hcs]) ?_
        rintro _ _ ⟨g1, mx1, s1, rfl, rfl⟩
        repeat ((simp only [go_sem, Int.reduceLT, Int.reduceLE, Int.reduceEq, Int.reduceToNat, hgs, hk, hlive, hcs, List.set_set, rowL_length, hen, hsr2, q1, q2, q3, q4, q5, q6]) )
        have hh1 := hhi g1 fun x hx => mx1.out x (.inr hx)
        have mx2 := Mix.refl g1 d b
        have s2 : Srt kf g1 d b := hhi1 g1 (by omega) hh1
        refine ret_at hq _ (.inr rfl) (by simp) ?_
        simp only [go_sem]
        exact ⟨g1, (hmixr.wide (by omega) (by omega)).trans ((mx1.wide (Nat.le_refl _) (by omega)).trans (mx2.wide (by omega) (Nat.le_refl _))), hfin g1 g1 mx1 s1 mx2 s2, rfl⟩
      · have q1 : ((s : Int) < (m : Int)) = True := eq_true (by omega)
        have q2 : ((m : Int) < (e : Int)) = True := eq_true (by omega)
        have q3 : ((a : Int) < (s : Int)) = True := eq_true (by omega)
        have q4 : ((s : Int) < (d : Int)) = True := eq_true (by omega)
        have q5 : ((d : Int) < (e : Int)) = True := eq_true (by omega)
        have q6 : ((e : Int) < (b : Int)) = True := eq_true (by omega)
        repeat (first | (simp only [go_sem, Int.reduceLT, Int.reduceLE, Int.reduceEq, Int.reduceToNat, hgs, hk, hlive, hcs, List.set_set, rowL_length, hen, hsr2, q1, q2, q3, q4, q5, q6]) | ((with_reducible refine And.intro ?_ ?_); omega) | ((with_reducible refine isSK ?_); refine call_ret (rotate (f := f) (a := s) (m := m) (b := e) (hgs _) hk hN hcs rfl rfl rfl (by omega) (by omega) (by omega)) ?_ ?_) )
        refine call_ex (ih (f := (roF f s m e)) (a := a) (m := s) (b := d) (by omega) (hmixr.dom (by omega) hD) rfl rfl rfl (by omega) (by omega) (by omega) hlo.1 hlo.2.1 hlo.2.2) (by simp only [go_sem, hcs]) ?_
        rintro _ _ ⟨g1, mx1, s1, rfl, rfl⟩
        repeat ((simp only [go_sem, Int.reduceLT, Int.reduceLE, Int.reduceEq, Int.reduceToNat, hgs, hk, hlive, hcs, List.set_set, rowL_length, hen, hsr2, q1, q2, q3, q4, q5, q6]) )
        have hh1 := hhi g1 fun x hx => mx1.out x (.inr hx)
        refine call_ex (ih (f := g1) (a := d) (m := e) (b := b) (by omega) (mx1.dom (by omega) (hmixr.dom (by omega) hD)) rfl rfl rfl (by omega) (by omega) (by omega) hh1.1 hh1.2.1 hh1.2.2) (by simp only [go_sem, hcs]) ?_
        rintro _ _ ⟨g2, mx2, s2, rfl, rfl⟩
        repeat ((simp only [go_sem, Int.reduceLT, Int.reduceLE, Int.reduceEq, Int.reduceToNat, hgs, hk, hlive, hcs, List.set_set, rowL_length, hen, hsr2, q1, q2, q3, q4, q5, q6]) )
        refine ret_at hq _ (.inr rfl) (by simp) ?_
        simp only [go_sem]
        exact ⟨g2, (hmixr.wide (by omega) (by omega)).trans ((mx1.wide (Nat.le_refl _) (by omega)).trans (mx2.wide (by omega) (Nat.le_refl _))), hfin g1 g2 mx1 s1 mx2 s2, rfl⟩
theorem symMerge {H : List Blk} {bi N : Nat} {ty : TypeId} {kd : BK} {c : Cap} {fn : Nat} {cs : List V} {kf : Int → Int} {D : Int → Prop} (hlt : bi < H.length) (hk : kd.mut = true) (hN : N ≤ 1000) (hcs : cs.all V.solid = true)
    (hf : ∀ (g : Nat → Int) (x y : Int), D x → D y → Cal Tryz.prog fn ([.v (.int .i64 x), .v (.int .i64 y)] ++ cs) (H.set bi ⟨rowL .i64 N (g), ty, kd⟩) fun u H' => u = .v (.int .i64 (cmpI (kf x) (kf y))) ∧ H' = H.set bi ⟨rowL .i64 N (g), ty, kd⟩) : ∀ (w : Nat) {f : Nat → Int} {a m b : Nat} {xa xm xb : Int} (hw9 : b - a ≤ w) (hD : ∀ x, x < N → D (f x)) (ha : xa = a) (hm : xm = m) (hb2 : xb = b) (ham : a < m) (hmb : m < b) (hbn : b ≤ N) (hl : Srt kf f a m) (hr : Srt kf f m b) (hc : Crs kf f a m b),
    Cal Tryz.prog 114 [.s bi 0 N c, .v (.int .i64 xa), .v (.int .i64 xm), .v (.int .i64 xb), .f fn cs] (H.set bi ⟨rowL .i64 N (f), ty, kd⟩) fun u H' => ∃ g, Mix f g a b ∧ Srt kf g a b ∧ u = .t [] ∧ H' = H.set bi ⟨rowL .i64 N (g), ty, kd⟩
  | 0, f, a, m, b, xa, xm, xb, hw9, hD, ha, hm, hb2, ham, hmb, hbn, hl, hr, hc => absurd hw9 (by omega)
  | w + 1, f, a, m, b, xa, xm, xb, hw9, hD, ha, hm, hb2, ham, hmb, hbn, hl, hr, hc => by
    have ih := @symMerge H bi N ty kd c fn cs kf D hlt hk hN hcs hf w
    by_cases h1 : m = a + 1
    · exact symOneL hlt hk hN hcs hf hD ha hm hb2 ham hmb hbn hl hr hc h1
    by_cases h2 : b = m + 1
    · exact symOneR hlt hk hN hcs hf hD ha hm hb2 ham hmb hbn hl hr hc h1 h2
    subst ha hm hb2
    have hgs : ∀ b : Blk, (H.set bi b)[bi]? = some b := fun b => List.getElem?_set_self hlt
    have hlive : kd.live = true := by cases kd <;> first | rfl | cases hk
    obtain ⟨d, hd⟩ : ∃ d, d = (a + b) / 2 := ⟨_, rfl⟩
    have d1 := half_u a b (by omega)
    have d2 := half_d a b
    rw [← hd] at d2
    have e0 : ((m : Int) - (a : Int) = 1) = False := eq_false (by omega)
    have e00 : ((b : Int) - (m : Int) = 1) = False := eq_false (by omega)
    refine cal_fn 215 mixed Tryz.func114 Tryz.ntmps114 Tryz.results114 rfl rfl rfl fun hw cx hx hq => ?_
    obtain ⟨T, hT⟩ : ∃ T, T = restC 6 (Tryz.f114.body.getD .skip) := ⟨_, rfl⟩
    refine WK_cut 6 (T := T) (by rw [hT]; rfl) ?_
    simp only [graftC]
    by_cases hdm : d < m
    · have e1 : ((d : Int) < (m : Int)) = True := eq_true (by omega)
      have e2 : (d : Int) + (m : Int) - (b : Int) = ((d + m - b : Nat) : Int) := by omega
      repeat (first | (simp only [go_sem, Int.reduceLT, Int.reduceLE, Int.reduceEq, Int.reduceToNat, hcs, e0, e00, d1, d2, e1, e2]) | ((with_reducible refine And.intro ?_ ?_); omega) )
      rw [hT]
      exact symTail hlt hk hN hcs hf hD ham hmb hbn hl hr hc hd (by rw [if_pos hdm]) (by rw [if_pos hdm]) h1 h2 hw9 ih hq
    · have e1 : ((d : Int) < (m : Int)) = False := eq_false (by omega)
      repeat (first | (simp only [go_sem, Int.reduceLT, Int.reduceLE, Int.reduceEq, Int.reduceToNat, hcs, e0, e00, d1, d2, e1]) | ((with_reducible refine And.intro ?_ ?_); omega) )
      rw [hT]
      exact symTail hlt hk hN hcs hf hD ham hmb hbn hl hr hc hd (by rw [if_neg hdm]) (by rw [if_neg hdm]) h1 h2 hw9 ih hq
end Go.Proofs.YtaekjojblkhfdaaGreatDoor
