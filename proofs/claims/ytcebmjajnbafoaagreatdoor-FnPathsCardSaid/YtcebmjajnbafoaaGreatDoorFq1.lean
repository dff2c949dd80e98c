/- Contracts of functions of the translated program, by the walk. -/
import Derived.Test.YtcebmjajnbafoaaGreatDoorFq5
set_option linter.unusedVariables false
set_option linter.unusedSimpArgs false
set_option maxRecDepth 8000
set_option maxHeartbeats 16000000
namespace Go.Proofs.YtcebmjajnbafoaaGreatDoor
open Go Go.Sx
open Go.RowKit
theorem fpC {cx : Cx} {H : List Blk} {x1 x2 : V} {l1 l2 : List Int} {b : List (Nat → Int)} {e : Int} {g73 g74 g75 g76 g77 g78 g79 g80 g81 g82 g83 g84 g85 g86 g87 g88 g89 g90 g91 g92 g93 g94 g95 g96 g97 g98 g99 g100 g101 g102 g103 g104 g105 g106 g107 g108 g109 g110 g111 g112 g113 g114 g115 g116 g117 g118 g119 g120 g121 g122 g123 g124 g125 g126 g127 g128 g129 g130 g131 : V} {Z : List (Nat → Int)} {M : List (Nat → Int)} {L : List Int} {t0 t1 : Int} {N : Nat} (hw : HWf H) (hx : cx.n0 = H.length) (hq : ∀ e s, fin Tryz.prog H.length [ResultVar.tmp 4] (fun v H' => v = .v (.bool true) ∧ H' = H) e s → cx.Q e s) (h1 : Rd H x1 u8C l1) (h2 : Rd H x2 u8C l2) (h81 : B8 l1) (h82 : B8 l2) (hl1 : l1.length ≤ 4096) (hl2 : l2.length ≤ 4096) (hp : PinR H) (hb : DrP b) (hN : b.map mdK = b) (he : 0 ≤ e ∧ e ≤ 3) (hF : FP b M e L t0 t1 N) :
    WK Tryz.prog cx [] (restC 13 (Tryz.f3.body.getD .skip)) ⟨[x1, x2, .any, .any, .v (.bool false), .s H.length 0 b.length (.u 0), .v (.int .i64 (e)), .s (H.length + 1) 0 b.length (.u 0), .v (.int .i64 0), .s (H.length + 2) 0 b.length (.u 0), .v (.int .i64 0), .s (H.length + 3) 0 b.length (.u 0), .v (.int .i64 0), .s (H.length + 4) 0 b.length (.u 0), .v (.int .i64 0), .s (H.length + 5) 0 M.length (.i 0), .v (.int .i64 0), .s (H.length + 6) 0 M.length (.u 0), .v (.int .i64 0), .v (.int .i64 (t0)), .v (.int .i64 (t1)), .v (.int .i64 0), .s (H.length + 7) 0 L.length (.u 0), .v (.int .i64 0), .s (H.length + 8) 0 L.length (.u 0), .v (.int .i64 0), .any, .any, .any, .any, .any, .any, .any, .any, .any, .any, .any, .any, .any, .any, .any, .any, .any, .any, .any, .any, .any, .any, .any, .any, .any, .any, .any, .any, .any, .any, .any, .any, .any, .any, .any, .any, .any, .any, .any, .any, .any, .any, .any, .any, .any, .any, .any, g73, g74, g75, g76, g77, g78, g79, g80, g81, g82, g83, g84, g85, g86, g87, g88, g89, g90, g91, g92, g93, g94, g95, g96, g97, g98, g99, g100, g101, g102, g103, g104, g105, g106, g107, g108, g109, g110, g111, g112, g113, g114, g115, g116, g117, g118, g119, g120, g121, g122, g123, g124, g125, g126, g127, g128, g129, g130, g131, .any, .any, .any, .any, .any, .any, .any, .any, .any, .any, .any, .any, .any, .any, .any, .any, .any, .any, .any, .any, .any, .any, .any, .any, .any, .any, .any, .any, .any, .any, .any, .any, .any, .any, .any, .any, .any, .any, .any, .any, .any, .any, .any, .any, .any, .any, .any, .any, .any, .any, .any, .any, .any, .any, .any, .any, .any, .any, .any, .any, .any, .any, .any, .any, .any, .any, .any, .any, .any, .any, .any, .any, .any, .any, .any, .any, .any, .any, .any, .any, .any, .any, .any, .any, .any, .any, .any, .any, .any, .any, .any, .any, .any, .any, .any, .any, .any, .any, .any, .any, .any, .any, .any, .any, .any, .any, .any, .any, .any, .any, .any, .any, .any, .any, .any, .any, .any, .any, .any, .any, .any, .any, .any, .any, .any, .any, .any, .any, .any, .any, .any, .any, .any, .any, .any, .any, .any, .any, .any, .any, .any, .any, .any, .any, .any, .any, .any, .any, .any, .any, .any, .any, .any, .any, .any, .any, .any, .any, .any, .any, .any, .any, .any, .any, .any, .any, .any, .any, .any, .any, .any, .any, .any, .any, .any, .any, .any, .any, .any, .any, .any, .any, .any, .any, .any, .any, .any, .any, .any, .any, .any, .any, .any, .any, .any, .any, .any, .any, .any, .any, .any, .any, .any, .any, .any, .any, .any, .any, .any, .any, .any, .any, .any, .any, .any, .any, .any, .any, .any, .any, .any, .any, .any, .any, .any, .any, .any, .any, .any, .any, .any, .any, .any, .any, .any, .any, .any, .any, .any, .any, .any, .any, .any, .any, .any, .any, .any, .any, .any, .any, .any, .any, .any, .any, .any, .any, .any, .any, .any, .any, .any, .any, .any, .any, .any, .any, .any, .any, .any, .any, .any, .any, .any, .any, .any, .any, .any, .any, .any, .any, .any, .any, .any, .any, .any, .any, .any, .any, .any, .any, .any, .any, .any, .any, .any, .any, .any, .any, .any, .any, .any, .any, .any, .any, .any, .any, .any, .any, .any, .any, .any, .any, .any, .any, .any, .any, .any, .any, .any, .any, .any, .any, .any, .any, .any, .any, .any, .any, .any, .any, .any, .any, .any, .any, .any, .any, .any, .any, .any, .any, .any, .any, .any, .any, .any, .any, .any, .any, .any, .any, .any, .any, .any, .any, .any, .any, .any, .any, .any, .any, .any, .any, .any, .any, .any, .any, .any, .any, .any, .any, .any, .any, .any, .any, .any, .any, .any, .any, .any, .any, .any, .any, .any, .any, .any, .any, .any, .any, .any, .any, .any, .any, .any, .any, .any, .any, .any, .any, .any, .any, .any, .any, .any, .any, .any, .any, .any, .any, .any, .any, .any, .any, .any, .any, .any, .any, .any, .any, .any, .any, .any, .any, .any, .any, .any, .any, .any, .any, .any, .any, .any, .any, .any, .any, .any, .any, .any, .any, .any, .any, .any, .any, .any, .any, .any, .any, .any, .any, .any, .any, .any, .any, .any, .any, .any, .any, .any, .any, .any, .any, .any, .any, .any, .any, .any], H ++ [⟨b.flatMap encK, 42, .own 3⟩, ⟨b.flatMap encK, 42, .own 3⟩, ⟨(bkL b).flatMap encK, 42, .own 3⟩, ⟨(bkL b).flatMap encK, 42, .own 3⟩, ⟨b.flatMap encK, 42, .own 3⟩, ⟨(M ++ Z).flatMap encK, 42, .own 3⟩, ⟨M.flatMap encK, 42, .own 3⟩, ⟨L.flatMap i64C, 2, .own 1⟩, ⟨L.flatMap i64C, 2, .own 1⟩]⟩ := by
  /-MAXS-/
  have hsol1 := h1.solid
  have hsol2 := h2.solid
  have hn1 : norefH H.length H := norefH_wf hw (Nat.le_refl _)
  have hb1 := hb.n1
  have hb5 := hb.n5
  have hb0 : Tryz.f3.body = some _ := rfl
  obtain ⟨T, hT⟩ : ∃ T, T = restC 14 (Tryz.f3.body.getD .skip) := ⟨_, rfl⟩
  rw [hb0] at hT ⊢
  clear hb0
  simp only [Option.getD_some, restC]
  refine WK_cut 1 (T := T) (by rw [hT]; rfl) ?_
  simp only [graftC]
  simp only [List.append_eq, List.cons_append, List.nil_append]
  have hfb := encK_flen b
  have hcb : ∀ j, j < b.length → cel (b.flatMap encK) (j * 3) = .v (.int .i16 (kAt b j 0)) := fun j hj => cell16 hj
  have hcb1 : ∀ j, j < b.length → cel (b.flatMap encK) (j * 3 + 1) = .v (.int .i8 (kAt b j 1)) := fun j hj => cell8 hj (by omega) (by omega)
  have hcb2 : ∀ j, j < b.length → cel (b.flatMap encK) (j * 3 + 2) = .v (.int .i8 (kAt b j 2)) := fun j hj => cell8 hj (by omega) (by omega)
  have hml := hF.ml
  have c0 := hcb 0 (by omega)
  have c9 := hcb (b.length - 1) (by omega)
  rw [hF.k0, Nat.zero_mul] at c0
  rw [hF.k1] at c9
  obtain ⟨q, hq9⟩ : ∃ q : Nat, (b.length : Int) - 1 = q := ⟨b.length - 1, by omega⟩
  have hqn : b.length - 1 = q := by omega
  rw [hqn] at c9
  have d1 : ((b.length : Int) < (M.length : Int)) = False := eq_false (by omega)
  have d2 : ((q : Int) < (b.length : Int)) = True := eq_true (by omega)
  have d3 : q < b.length := by omega
  have d4 : ((0 : Int) < (b.length : Int)) = True := eq_true (by omega)
  have d5 : ((L.length : Int) = t1 - t0) = True := eq_true (by rw [hF.ll]; exact hF.nN)
  have f1 := hF.le0
  have f2 := hF.le1
  have f3 := hF.le2
  have hkb := bkL_len b
  have hLl := hF.ll
  have hLn := hF.nN
  have hvb := drP_ok hb
  repeat (first | (simp (maxSteps := 3000000) only [go_sem, Int.reduceLT, Int.reduceLE, Int.reduceEq, Int.reduceToNat, hvb, c0, c9, hq9, d1, d2, d3, d4, d5, hfb]) | ((with_reducible refine And.intro ?_ ?_); omega) | ((with_reducible refine isSK ?_); first | (refine call_ret (sameTrackS (l := b) (Rd.own 1 rfl (by rfl) (by first | rfl | simp | omega)) (Rd.own0 rfl (by rfl) (by first | rfl | simp | omega)) (by omega)) (by simp (maxSteps := 3000000) only [go_sem, Int.reduceLT, Int.reduceLE, Int.reduceEq, Int.reduceToNat, hvb, c0, c9, hq9, d1, d2, d3, d4, d5, hfb]) ?_) | (refine call_ret (sameTrackI (l := b) (Rd.own 1 rfl (by rfl) (by first | rfl | simp | omega)) (Rd.own0 rfl (by rfl) (by first | rfl | simp | omega)) (by omega)) (by simp (maxSteps := 3000000) only [go_sem, Int.reduceLT, Int.reduceLE, Int.reduceEq, Int.reduceToNat, hvb, c0, c9, hq9, d1, d2, d3, d4, d5, hfb]) ?_) | (refine call_ret (validTrack (l := b) (Rd.own0 rfl (by rfl) (by first | rfl | simp | omega)) (tkOk_mem hvb) (by omega)) (by simp (maxSteps := 3000000) only [go_sem, Int.reduceLT, Int.reduceLE, Int.reduceEq, Int.reduceToNat, hvb, c0, c9, hq9, d1, d2, d3, d4, d5, hfb]) ?_) | (refine call_ret (sameTrackS (l := bkL b) (Rd.own 2 rfl (by rfl) (by rw [bkL_len])) (Rd.own 3 rfl (by rfl) (by rw [bkL_len])) (by omega)) (by simp (maxSteps := 3000000) only [go_sem, Int.reduceLT, Int.reduceLE, Int.reduceEq, Int.reduceToNat, hvb, c0, c9, hq9, d1, d2, d3, d4, d5, hfb]) ?_) | (refine call_ret (sameTrackS (l := b) (Rd.own 4 rfl (by rfl) (by first | rfl | simp | omega)) (Rd.own0 rfl (by rfl) (by first | rfl | simp | omega)) (by omega)) (by simp (maxSteps := 3000000) only [go_sem, Int.reduceLT, Int.reduceLE, Int.reduceEq, Int.reduceToNat, hvb, c0, c9, hq9, d1, d2, d3, d4, d5, hfb]) ?_) | (refine call_ret (sameTrackS (l := M) (Rd.fill 5 rfl (by rfl) rfl) (Rd.own 6 rfl (by rfl) (by first | rfl | simp | omega)) (by omega)) (by simp (maxSteps := 3000000) only [go_sem, Int.reduceLT, Int.reduceLE, Int.reduceEq, Int.reduceToNat, hvb, c0, c9, hq9, d1, d2, d3, d4, d5, hfb]) ?_) | (refine call_ret (sameNumbers (l := L) (Rd.own 7 rfl (by rfl) (by first | rfl | simp | omega)) (Rd.own 8 rfl (by rfl) (by first | rfl | simp | omega)) (by omega)) (by simp (maxSteps := 3000000) only [go_sem, Int.reduceLT, Int.reduceLE, Int.reduceEq, Int.reduceToNat, hvb, c0, c9, hq9, d1, d2, d3, d4, d5, hfb]) ?_)) | ((with_reducible refine And.intro ?_ ?_); first | (with_reducible rfl) | assumption | (simp (maxSteps := 3000000) only [go_sem]; done)))
  rw [hT]
  exact fpD hw hx hq h1 h2 h81 h82 hl1 hl2 hp hb hN he hF
end Go.Proofs.YtcebmjajnbafoaaGreatDoor
namespace Go.Proofs.YtcebmjajnbafoaaGreatDoor
open Go Go.Sx
open Go.RowKit
theorem fpB {cx : Cx} {H : List Blk} {x1 x2 : V} {l1 l2 : List Int} {b : List (Nat → Int)} {e : Int} {g73 g74 g75 g76 g77 g78 g79 g80 g81 g82 g83 g84 g85 g86 g87 g88 g89 g90 g91 g92 g93 g94 g95 g96 g97 g98 g99 g100 g101 g102 g103 : V} {M Z : List (Nat → Int)} {L : List Int} {t0 t1 : Int} {N : Nat} (hw : HWf H) (hx : cx.n0 = H.length) (hq : ∀ e s, fin Tryz.prog H.length [ResultVar.tmp 4] (fun v H' => v = .v (.bool true) ∧ H' = H) e s → cx.Q e s) (h1 : Rd H x1 u8C l1) (h2 : Rd H x2 u8C l2) (h81 : B8 l1) (h82 : B8 l2) (hl1 : l1.length ≤ 4096) (hl2 : l2.length ≤ 4096) (hp : PinR H) (hb : DrP b) (hN : b.map mdK = b) (he : 0 ≤ e ∧ e ≤ 3) (hM : M = thinF b 1) (hZ : Z = rzF (thinF b 1).length b.length) (hL : L = spL b e (tkN b)) (hF : FP b M e L t0 t1 N) :
    WK Tryz.prog cx [] (restC 8 (Tryz.f3.body.getD .skip)) ⟨[x1, x2, .any, .any, .v (.bool false), .s H.length 0 b.length (.u 0), .v (.int .i64 (e)), .s (H.length + 1) 0 b.length (.u 0), .v (.int .i64 0), .s (H.length + 2) 0 b.length (.u 0), .v (.int .i64 0), .s (H.length + 3) 0 b.length (.u 0), .v (.int .i64 0), .s (H.length + 4) 0 b.length (.u 0), .v (.int .i64 0), .any, .any, .any, .any, .any, .any, .any, .any, .any, .any, .any, .any, .any, .any, .any, .any, .any, .any, .any, .any, .any, .any, .any, .any, .any, .any, .any, .any, .any, .any, .any, .any, .any, .any, .any, .any, .any, .any, .any, .any, .any, .any, .any, .any, .any, .any, .any, .any, .any, .any, .any, .any, .any, .any, .any, .any, .any, .any, g73, g74, g75, g76, g77, g78, g79, g80, g81, g82, g83, g84, g85, g86, g87, g88, g89, g90, g91, g92, g93, g94, g95, g96, g97, g98, g99, g100, g101, g102, g103, .any, .any, .any, .any, .any, .any, .any, .any, .any, .any, .any, .any, .any, .any, .any, .any, .any, .any, .any, .any, .any, .any, .any, .any, .any, .any, .any, .any, .any, .any, .any, .any, .any, .any, .any, .any, .any, .any, .any, .any, .any, .any, .any, .any, .any, .any, .any, .any, .any, .any, .any, .any, .any, .any, .any, .any, .any, .any, .any, .any, .any, .any, .any, .any, .any, .any, .any, .any, .any, .any, .any, .any, .any, .any, .any, .any, .any, .any, .any, .any, .any, .any, .any, .any, .any, .any, .any, .any, .any, .any, .any, .any, .any, .any, .any, .any, .any, .any, .any, .any, .any, .any, .any, .any, .any, .any, .any, .any, .any, .any, .any, .any, .any, .any, .any, .any, .any, .any, .any, .any, .any, .any, .any, .any, .any, .any, .any, .any, .any, .any, .any, .any, .any, .any, .any, .any, .any, .any, .any, .any, .any, .any, .any, .any, .any, .any, .any, .any, .any, .any, .any, .any, .any, .any, .any, .any, .any, .any, .any, .any, .any, .any, .any, .any, .any, .any, .any, .any, .any, .any, .any, .any, .any, .any, .any, .any, .any, .any, .any, .any, .any, .any, .any, .any, .any, .any, .any, .any, .any, .any, .any, .any, .any, .any, .any, .any, .any, .any, .any, .any, .any, .any, .any, .any, .any, .any, .any, .any, .any, .any, .any, .any, .any, .any, .any, .any, .any, .any, .any, .any, .any, .any, .any, .any, .any, .any, .any, .any, .any, .any, .any, .any, .any, .any, .any, .any, .any, .any, .any, .any, .any, .any, .any, .any, .any, .any, .any, .any, .any, .any, .any, .any, .any, .any, .any, .any, .any, .any, .any, .any, .any, .any, .any, .any, .any, .any, .any, .any, .any, .any, .any, .any, .any, .any, .any, .any, .any, .any, .any, .any, .any, .any, .any, .any, .any, .any, .any, .any, .any, .any, .any, .any, .any, .any, .any, .any, .any, .any, .any, .any, .any, .any, .any, .any, .any, .any, .any, .any, .any, .any, .any, .any, .any, .any, .any, .any, .any, .any, .any, .any, .any, .any, .any, .any, .any, .any, .any, .any, .any, .any, .any, .any, .any, .any, .any, .any, .any, .any, .any, .any, .any, .any, .any, .any, .any, .any, .any, .any, .any, .any, .any, .any, .any, .any, .any, .any, .any, .any, .any, .any, .any, .any, .any, .any, .any, .any, .any, .any, .any, .any, .any, .any, .any, .any, .any, .any, .any, .any, .any, .any, .any, .any, .any, .any, .any, .any, .any, .any, .any, .any, .any, .any, .any, .any, .any, .any, .any, .any, .any, .any, .any, .any, .any, .any, .any, .any, .any, .any, .any, .any, .any, .any, .any, .any, .any, .any, .any, .any, .any, .any, .any, .any, .any, .any, .any, .any, .any, .any, .any, .any, .any, .any, .any, .any, .any, .any, .any, .any, .any, .any, .any, .any, .any, .any, .any, .any, .any, .any, .any, .any, .any, .any, .any, .any, .any, .any, .any, .any, .any, .any, .any, .any, .any, .any, .any, .any, .any, .any, .any, .any, .any, .any, .any, .any, .any, .any, .any, .any, .any, .any, .any, .any, .any, .any, .any, .any, .any, .any, .any, .any, .any, .any, .any], H ++ [⟨b.flatMap encK, 42, .own 3⟩, ⟨b.flatMap encK, 42, .own 3⟩, ⟨(bkL b).flatMap encK, 42, .own 3⟩, ⟨(bkL b).flatMap encK, 42, .own 3⟩, ⟨b.flatMap encK, 42, .own 3⟩]⟩ := by
  /-MAXS-/
  have hsol1 := h1.solid
  have hsol2 := h2.solid
  have hn1 : norefH H.length H := norefH_wf hw (Nat.le_refl _)
  have hb1 := hb.n1
  have hb5 := hb.n5
  have hb0 : Tryz.f3.body = some _ := rfl
  obtain ⟨T, hT⟩ : ∃ T, T = restC 13 (Tryz.f3.body.getD .skip) := ⟨_, rfl⟩
  rw [hb0] at hT ⊢
  clear hb0
  simp only [Option.getD_some, restC]
  refine WK_cut 5 (T := T) (by rw [hT]; rfl) ?_
  simp only [graftC]
  repeat (first | (simp (maxSteps := 3000000) only [go_sem, Int.reduceLT, Int.reduceLE, Int.reduceEq, Int.reduceToNat]) | ((with_reducible refine And.intro ?_ ?_); omega) | ((with_reducible refine isSK ?_); first | (refine call_ret (thinI' (b := b) (Rd.own0 rfl (by rfl) (by first | rfl | simp | omega)) hb hM hZ) (by simp (maxSteps := 3000000) only [go_sem, Int.reduceLT, Int.reduceLE, Int.reduceEq, Int.reduceToNat]) ?_) | (refine call_ret (thinS' (b := b) (Rd.own0 rfl (by rfl) (by first | rfl | simp | omega)) hb hM) (by simp (maxSteps := 3000000) only [go_sem, Int.reduceLT, Int.reduceLE, Int.reduceEq, Int.reduceToNat]) ?_) | (refine call_ret (ticks' (b := b) (Rd.own0 rfl (by rfl) (by first | rfl | simp | omega)) hb hF) (by simp (maxSteps := 3000000) only [go_sem, Int.reduceLT, Int.reduceLE, Int.reduceEq, Int.reduceToNat]) ?_) | (refine call_ret (spI' (b := b) (Rd.own0 rfl (by rfl) (by first | rfl | simp | omega)) hb he hL) (by simp (maxSteps := 3000000) only [go_sem, Int.reduceLT, Int.reduceLE, Int.reduceEq, Int.reduceToNat]) ?_) | (refine call_ret (spS' (b := b) (Rd.own0 rfl (by rfl) (by first | rfl | simp | omega)) hb he hL) (by simp (maxSteps := 3000000) only [go_sem, Int.reduceLT, Int.reduceLE, Int.reduceEq, Int.reduceToNat]) ?_)) | ((with_reducible refine And.intro ?_ ?_); first | (with_reducible rfl) | assumption | (simp (maxSteps := 3000000) only [go_sem]; done)))
  rw [hT]
  exact fpC hw hx hq h1 h2 h81 h82 hl1 hl2 hp hb hN he hF
end Go.Proofs.YtcebmjajnbafoaaGreatDoor
namespace Go.Proofs.YtcebmjajnbafoaaGreatDoor
open Go Go.Sx
open Go.RowKit
theorem fpA {cx : Cx} {H : List Blk} {x1 x2 : V} {l1 l2 : List Int} {b : List (Nat → Int)} {e : Int} {g73 g74 g75 g76 g77 g78 g79 g80 g81 g82 : V}  (hw : HWf H) (hx : cx.n0 = H.length) (hq : ∀ e s, fin Tryz.prog H.length [ResultVar.tmp 4] (fun v H' => v = .v (.bool true) ∧ H' = H) e s → cx.Q e s) (h1 : Rd H x1 u8C l1) (h2 : Rd H x2 u8C l2) (h81 : B8 l1) (h82 : B8 l2) (hl1 : l1.length ≤ 4096) (hl2 : l2.length ≤ 4096) (hp : PinR H) (hb : DrP b) (hN : b.map mdK = b) (he : 0 ≤ e ∧ e ≤ 3)  :
    WK Tryz.prog cx [] (restC 4 (Tryz.f3.body.getD .skip)) ⟨[x1, x2, .any, .any, .v (.bool false), .s H.length 0 b.length (.u 0), .v (.int .i64 (e)), .any, .any, .any, .any, .any, .any, .any, .any, .any, .any, .any, .any, .any, .any, .any, .any, .any, .any, .any, .any, .any, .any, .any, .any, .any, .any, .any, .any, .any, .any, .any, .any, .any, .any, .any, .any, .any, .any, .any, .any, .any, .any, .any, .any, .any, .any, .any, .any, .any, .any, .any, .any, .any, .any, .any, .any, .any, .any, .any, .any, .any, .any, .any, .any, .any, .any, g73, g74, g75, g76, g77, g78, g79, g80, g81, g82, .any, .any, .any, .any, .any, .any, .any, .any, .any, .any, .any, .any, .any, .any, .any, .any, .any, .any, .any, .any, .any, .any, .any, .any, .any, .any, .any, .any, .any, .any, .any, .any, .any, .any, .any, .any, .any, .any, .any, .any, .any, .any, .any, .any, .any, .any, .any, .any, .any, .any, .any, .any, .any, .any, .any, .any, .any, .any, .any, .any, .any, .any, .any, .any, .any, .any, .any, .any, .any, .any, .any, .any, .any, .any, .any, .any, .any, .any, .any, .any, .any, .any, .any, .any, .any, .any, .any, .any, .any, .any, .any, .any, .any, .any, .any, .any, .any, .any, .any, .any, .any, .any, .any, .any, .any, .any, .any, .any, .any, .any, .any, .any, .any, .any, .any, .any, .any, .any, .any, .any, .any, .any, .any, .any, .any, .any, .any, .any, .any, .any, .any, .any, .any, .any, .any, .any, .any, .any, .any, .any, .any, .any, .any, .any, .any, .any, .any, .any, .any, .any, .any, .any, .any, .any, .any, .any, .any, .any, .any, .any, .any, .any, .any, .any, .any, .any, .any, .any, .any, .any, .any, .any, .any, .any, .any, .any, .any, .any, .any, .any, .any, .any, .any, .any, .any, .any, .any, .any, .any, .any, .any, .any, .any, .any, .any, .any, .any, .any, .any, .any, .any, .any, .any, .any, .any, .any, .any, .any, .any, .any, .any, .any, .any, .any, .any, .any, .any, .any, .any, .any, .any, .any, .any, .any, .any, .any, .any, .any, .any, .any, .any, .any, .any, .any, .any, .any, .any, .any, .any, .any, .any, .any, .any, .any, .any, .any, .any, .any, .any, .any, .any, .any, .any, .any, .any, .any, .any, .any, .any, .any, .any, .any, .any, .any, .any, .any, .any, .any, .any, .any, .any, .any, .any, .any, .any, .any, .any, .any, .any, .any, .any, .any, .any, .any, .any, .any, .any, .any, .any, .any, .any, .any, .any, .any, .any, .any, .any, .any, .any, .any, .any, .any, .any, .any, .any, .any, .any, .any, .any, .any, .any, .any, .any, .any, .any, .any, .any, .any, .any, .any, .any, .any, .any, .any, .any, .any, .any, .any, .any, .any, .any, .any, .any, .any, .any, .any, .any, .any, .any, .any, .any, .any, .any, .any, .any, .any, .any, .any, .any, .any, .any, .any, .any, .any, .any, .any, .any, .any, .any, .any, .any, .any, .any, .any, .any, .any, .any, .any, .any, .any, .any, .any, .any, .any, .any, .any, .any, .any, .any, .any, .any, .any, .any, .any, .any, .any, .any, .any, .any, .any, .any, .any, .any, .any, .any, .any, .any, .any, .any, .any, .any, .any, .any, .any, .any, .any, .any, .any, .any, .any, .any, .any, .any, .any, .any, .any, .any, .any, .any, .any, .any, .any, .any, .any, .any, .any, .any, .any, .any, .any, .any, .any, .any, .any, .any, .any, .any, .any, .any, .any, .any, .any, .any, .any, .any, .any, .any, .any, .any, .any, .any, .any, .any, .any, .any, .any, .any, .any, .any, .any, .any, .any, .any, .any, .any, .any, .any, .any, .any, .any, .any, .any, .any, .any, .any, .any, .any, .any, .any, .any, .any, .any, .any, .any, .any, .any, .any, .any, .any, .any, .any, .any, .any, .any, .any, .any, .any, .any, .any, .any, .any, .any, .any, .any, .any, .any, .any, .any, .any, .any, .any, .any, .any, .any], H ++ [⟨b.flatMap encK, 42, .own 3⟩]⟩ := by
  /-MAXS-/
  have hsol1 := h1.solid
  have hsol2 := h2.solid
  have hn1 : norefH H.length H := norefH_wf hw (Nat.le_refl _)
  have hb1 := hb.n1
  have hb5 := hb.n5
  have hb0 : Tryz.f3.body = some _ := rfl
  obtain ⟨T, hT⟩ : ∃ T, T = restC 8 (Tryz.f3.body.getD .skip) := ⟨_, rfl⟩
  rw [hb0] at hT ⊢
  clear hb0
  simp only [Option.getD_some, restC]
  refine WK_cut 4 (T := T) (by rw [hT]; rfl) ?_
  simp only [graftC]
  repeat (first | (simp (maxSteps := 3000000) only [go_sem, Int.reduceLT, Int.reduceLE, Int.reduceEq, Int.reduceToNat]) | ((with_reducible refine And.intro ?_ ?_); omega) | ((with_reducible refine isSK ?_); first | (refine call_ret (ttC hp.app.toPow (b := b) (Rd.own0 rfl (by rfl) (by first | rfl | simp | omega)) hb) (by simp (maxSteps := 3000000) only [go_sem, Int.reduceLT, Int.reduceLE, Int.reduceEq, Int.reduceToNat]) ?_) | (refine call_ret (rtC_ hp.app hb hN) (by simp (maxSteps := 3000000) only [go_sem, Int.reduceLT, Int.reduceLE, Int.reduceEq, Int.reduceToNat]) ?_) | (refine call_ret (bkI (b := b) (Rd.own0 rfl (by rfl) (by first | rfl | simp | omega)) hb) (by simp (maxSteps := 3000000) only [go_sem, Int.reduceLT, Int.reduceLE, Int.reduceEq, Int.reduceToNat]) ?_) | (refine call_ret (bkS (b := b) (Rd.own0 rfl (by rfl) (by first | rfl | simp | omega)) hb) (by simp (maxSteps := 3000000) only [go_sem, Int.reduceLT, Int.reduceLE, Int.reduceEq, Int.reduceToNat]) ?_) | (refine call_ret (bkII (b := b) (Rd.own 3 rfl (by rfl) (by rw [bkL_len])) hb hN) (by simp (maxSteps := 3000000) only [go_sem, Int.reduceLT, Int.reduceLE, Int.reduceEq, Int.reduceToNat]) ?_)) | ((with_reducible refine And.intro ?_ ?_); first | (with_reducible rfl) | assumption | (simp (maxSteps := 3000000) only [go_sem]; done)))
  rw [hT]
  exact fpB hw hx hq h1 h2 h81 h82 hl1 hl2 hp hb hN he rfl rfl rfl (fP hb e)
end Go.Proofs.YtcebmjajnbafoaaGreatDoor
namespace Go.Proofs.YtcebmjajnbafoaaGreatDoor
open Go Go.Sx
open Go.RowKit
theorem lawFnPaths {H : List Blk} {x1 x2 : V} {l1 l2 : List Int} (hp : PinR H) (h1 : Rd H x1 u8C l1) (h2 : Rd H x2 u8C l2) (h81 : B8 l1) (h82 : B8 l2) :
    Cal Tryz.prog 3 [x1, x2] H fun v H' => v = .v (.bool true) ∧ H' = H := by
  have hsol1 := h1.solid
  have hsol2 := h2.solid
  obtain ⟨T, hT⟩ : ∃ T, T = restC 4 (Tryz.f3.body.getD .skip) := ⟨_, rfl⟩
  by_cases hc1 : 4096 < (l1.length : Int)
  · have f1 : (4096 < (l1.length : Int)) = True := eq_true hc1
    refine cal_fn 595 mixed Tryz.func3 Tryz.ntmps3 Tryz.results3 rfl rfl rfl fun hw cx hx hq => ?_
    refine WK_cut 4 (T := T) (by rw [hT]; rfl) ?_
    simp only [graftC]
    repeat (first | (simp only [go_sem, Int.reduceLT, Int.reduceLE, Int.reduceEq, Int.reduceToNat, hsol1, hsol2, f1]) | ((with_reducible refine And.intro ?_ ?_); omega) | ((with_reducible refine isSK ?_); first | (refine call_ret (f6big h1) (by simp only [go_sem, Int.reduceLT, Int.reduceLE, Int.reduceEq, Int.reduceToNat, hsol1, hsol2, f1]) ?_) | (refine call_ret (f6big h2) (by simp only [go_sem, Int.reduceLT, Int.reduceLE, Int.reduceEq, Int.reduceToNat, hsol1, hsol2, f1]) ?_)) | ((with_reducible refine And.intro ?_ ?_); first | (with_reducible rfl) | assumption | (simp only [go_sem]; done)))
    refine ret_same hq _ (.inl rfl) ?_
    simp [go_sem]
  have f1 : (4096 < (l1.length : Int)) = False := eq_false hc1
  by_cases hc2 : 4096 < (l2.length : Int)
  · have f2 : (4096 < (l2.length : Int)) = True := eq_true hc2
    refine cal_fn 595 mixed Tryz.func3 Tryz.ntmps3 Tryz.results3 rfl rfl rfl fun hw cx hx hq => ?_
    refine WK_cut 4 (T := T) (by rw [hT]; rfl) ?_
    simp only [graftC]
    repeat (first | (simp only [go_sem, Int.reduceLT, Int.reduceLE, Int.reduceEq, Int.reduceToNat, hsol1, hsol2, f1, f2]) | ((with_reducible refine And.intro ?_ ?_); omega) | ((with_reducible refine isSK ?_); first | (refine call_ret (f6big h1) (by simp only [go_sem, Int.reduceLT, Int.reduceLE, Int.reduceEq, Int.reduceToNat, hsol1, hsol2, f1, f2]) ?_) | (refine call_ret (f6big h2) (by simp only [go_sem, Int.reduceLT, Int.reduceLE, Int.reduceEq, Int.reduceToNat, hsol1, hsol2, f1, f2]) ?_)) | ((with_reducible refine And.intro ?_ ?_); first | (with_reducible rfl) | assumption | (simp only [go_sem]; done)))
    refine ret_same hq _ (.inl rfl) ?_
    simp [go_sem]
  have f2 : (4096 < (l2.length : Int)) = False := eq_false hc2
  have hs12 : l1.length ≤ 4096 ∧ l2.length ≤ 4096 := by omega
  refine cal_fn 595 mixed Tryz.func3 Tryz.ntmps3 Tryz.results3 rfl rfl rfl fun hw cx hx hq => ?_
  refine WK_cut 4 (T := T) (by rw [hT]; rfl) ?_
  simp only [graftC]
  repeat (first | (simp only [go_sem, Int.reduceLT, Int.reduceLE, Int.reduceEq, Int.reduceToNat, hsol1, hsol2, f1, f2]) | ((with_reducible refine And.intro ?_ ?_); omega) | ((with_reducible refine isSK ?_); first | (refine call_ret (f6big h1) (by simp only [go_sem, Int.reduceLT, Int.reduceLE, Int.reduceEq, Int.reduceToNat, hsol1, hsol2, f1, f2]) ?_) | (refine call_ret (f6big h2) (by simp only [go_sem, Int.reduceLT, Int.reduceLE, Int.reduceEq, Int.reduceToNat, hsol1, hsol2, f1, f2]) ?_)) | ((with_reducible refine And.intro ?_ ?_); first | (with_reducible rfl) | assumption | (simp only [go_sem]; done)))
  refine call_ex (P6TrackN h1 h81 hs12.1) (by simp only [go_sem, hsol1]) ?_
  rintro _ H1 ⟨b, ⟨hb, hN⟩, rfl, hH⟩
  rw [hH]; clear hH H1
  repeat (first | (simp only [go_sem, Int.reduceLT, Int.reduceLE, Int.reduceEq, Int.reduceToNat, hsol1, hsol2]) | ((with_reducible refine And.intro ?_ ?_); omega) | ((with_reducible refine isSK ?_); first | (refine call_ret (P6Pick (n := 4) h2.app h82 hs12.2 (by omega)) (by simp only [go_sem, Int.reduceLT, Int.reduceLE, Int.reduceEq, Int.reduceToNat, hsol1, hsol2]) ?_)) | ((with_reducible refine And.intro ?_ ?_); first | (with_reducible rfl) | assumption | (simp only [go_sem]; done)))
  rw [hT]
  have he := pkV_range h82 0 0 (n := 4) (by omega)
  exact fpA hw hx hq h1 h2 h81 h82 hs12.1 hs12.2 hp hb hN (by omega)
end Go.Proofs.YtcebmjajnbafoaaGreatDoor
