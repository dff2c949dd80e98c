/- Contracts of functions of the translated program, by the walk. -/
import Derived.Test.YtaekjojblkhfdaaGreatDoorPqCz
set_option linter.unusedVariables false
set_option linter.unusedSimpArgs false
set_option maxRecDepth 8000
set_option maxHeartbeats 16000000
namespace Go.Proofs.YtaekjojblkhfdaaGreatDoor
open Go Go.Sx
open Go.RowKit
theorem poBz {cx : Cx} {H : List Blk} {x1 x2 : V} {l1 l2 : List Int} {b : List (Nat → Int)} {g68 g69 g70 g71 g72 g73 g74 g75 g76 g77 g78 g79 g80 g81 g82 g83 g84 g85 g86 g87 g88 g89 g90 g91 g92 g93 g94 g95 g96 g97 g98 : V} {o M : List Int} {S lo kn pl : Int} (hw : HWf H) (hx : cx.n0 = H.length) (hq : ∀ e s, fin Tryz.prog H.length [ResultVar.tmp 4] (fun v H' => v = .v (.bool true) ∧ H' = H) e s → cx.Q e s) (h1 : Rd H x1 u8C l1) (h2 : Rd H x2 u8C l2) (h81 : B8 l1) (h82 : B8 l2) (hl1 : l1.length ≤ 4096) (hl2 : l2.length ≤ 4096) (hp : PinR H) (hb6 : b.length ≤ 6) (h12 : ∀ f ∈ b, F12 f) (ho : OrdP o b.length) (hQ : OQ b o M S lo kn pl) (hn : b.length = 0) :
    WK Tryz.prog cx [] (restC 8 (Tryz.f3.body.getD .skip)) ⟨[x1, x2, .any, .any, .v (.bool false), .s H.length 0 b.length (.u 0), .v (.int .i64 (b.length)), .s (H.length + 1) 0 b.length (.u 0), .s (H.length + 2) 0 b.length (.u 0), .v (.int .i64 0), .v (.bool true), .v (.int .i64 0), .v (.int .i64 (S)), .v (.int .i64 0), .any, .any, .any, .any, .any, .any, .any, .any, .any, .any, .any, .any, .any, .any, .any, .any, .any, .any, .any, .any, .any, .any, .any, .any, .any, .any, .any, .any, .any, .any, .any, .any, .any, .any, .any, .any, .any, .any, .any, .any, .any, .any, .any, .any, .any, .any, .any, .any, .any, .any, .any, .any, .any, .any, g68, g69, g70, g71, g72, g73, g74, g75, g76, g77, g78, g79, g80, g81, g82, g83, g84, g85, g86, g87, g88, g89, g90, g91, g92, g93, g94, g95, g96, g97, g98] ++ junk 407, H ++ [⟨b.flatMap (rowL .u16 12), 50, .own 12⟩, ⟨o.flatMap i64C, 2, .own 1⟩, ⟨o.flatMap i64C, 2, .own 1⟩]⟩ := by
  /-MAXS-/
  have hsol1 := h1.solid
  have hsol2 := h2.solid
  have hn1 : norefH H.length H := norefH_wf hw (Nat.le_refl _)
  have hb0 : Tryz.f3.body = some _ := rfl
  obtain ⟨T, hT⟩ : ∃ T, T = restC 12 (Tryz.f3.body.getD .skip) := ⟨_, rfl⟩
  rw [hb0] at hT ⊢
  clear hb0
  simp only [Option.getD_some, restC]
  refine WK_cut 4 (T := T) (by rw [hT]; rfl) ?_
  simp only [graftC]
  repeat (first | (simp (maxSteps := 3000000) only [go_sem, Int.reduceLT, Int.reduceLE, Int.reduceEq, Int.reduceToNat]) | ((with_reducible refine isSK ?_); first | refine call_ret (bestI6 (b := b) (Rd.own0 rfl (by rfl) (by rfl )) h12 hb6 hn) ?_ ?_ | refine call_ret (bestS6 (b := b) (Rd.own0 rfl (by rfl) (by rfl )) h12 hb6 hn) ?_ ?_ | refine call_ret (treeI (b := b) (Rd.own0 rfl (by rfl) (by rfl )) h12 hb6 hQ.tb) ?_ ?_ | refine call_ret (treeS (b := b) (Rd.own0 rfl (by rfl) (by rfl )) h12 hb6 hQ.tb) ?_ ?_) )
  rw [hT]
  exact poCz hw hx hq h1 h2 h81 h82 hl1 hl2 hp hb6 h12 ho hQ hn
end Go.Proofs.YtaekjojblkhfdaaGreatDoor
namespace Go.Proofs.YtaekjojblkhfdaaGreatDoor
open Go Go.Sx
open Go.RowKit
theorem poA {cx : Cx} {H : List Blk} {x1 x2 : V} {l1 l2 : List Int} {b : List (Nat → Int)} {g68 g69 g70 g71 g72 g73 g74 g75 g76 g77 g78 g79 g80 : V} {o M : List Int} {S lo kn pl : Int} (hw : HWf H) (hx : cx.n0 = H.length) (hq : ∀ e s, fin Tryz.prog H.length [ResultVar.tmp 4] (fun v H' => v = .v (.bool true) ∧ H' = H) e s → cx.Q e s) (h1 : Rd H x1 u8C l1) (h2 : Rd H x2 u8C l2) (h81 : B8 l1) (h82 : B8 l2) (hl1 : l1.length ≤ 4096) (hl2 : l2.length ≤ 4096) (hp : PinR H) (hb6 : b.length ≤ 6) (h12 : ∀ f ∈ b, F12 f) (ho : OrdP o b.length) (hQ : OQ b o M S lo kn pl) :
    WK Tryz.prog cx [] (restC 5 (Tryz.f3.body.getD .skip)) ⟨[x1, x2, .any, .any, .v (.bool false), .s H.length 0 b.length (.u 0), .v (.int .i64 (b.length)), .s (H.length + 1) 0 b.length (.u 0), .any, .any, .any, .any, .any, .any, .any, .any, .any, .any, .any, .any, .any, .any, .any, .any, .any, .any, .any, .any, .any, .any, .any, .any, .any, .any, .any, .any, .any, .any, .any, .any, .any, .any, .any, .any, .any, .any, .any, .any, .any, .any, .any, .any, .any, .any, .any, .any, .any, .any, .any, .any, .any, .any, .any, .any, .any, .any, .any, .any, g68, g69, g70, g71, g72, g73, g74, g75, g76, g77, g78, g79, g80] ++ junk 425, H ++ [⟨b.flatMap (rowL .u16 12), 50, .own 12⟩, ⟨o.flatMap i64C, 2, .own 1⟩]⟩ := by
  /-MAXS-/
  have hsol1 := h1.solid
  have hsol2 := h2.solid
  have hn1 : norefH H.length H := norefH_wf hw (Nat.le_refl _)
  have hb0 : Tryz.f3.body = some _ := rfl
  obtain ⟨T, hT⟩ : ∃ T, T = restC 8 (Tryz.f3.body.getD .skip) := ⟨_, rfl⟩
  rw [hb0] at hT ⊢
  clear hb0
  simp only [Option.getD_some, restC]
  refine WK_cut 3 (T := T) (by rw [hT]; rfl) ?_
  simp only [graftC]
  repeat (first | (simp (maxSteps := 3000000) only [go_sem, Int.reduceLT, Int.reduceLE, Int.reduceEq, Int.reduceToNat]) | ((with_reducible refine isSK ?_); first | refine call_ret (otI hp.app (o := o) (Rd.own 1 rfl (by rfl) ho.1.symm) ho hb6) ?_ ?_ | refine call_ret (rdI hp.app ho hb6) ?_ ?_ | refine call_ret (isI (b := b) (o := o) (Rd.own0 rfl (by rfl) (by rfl )) (Rd.own 1 rfl (by rfl) ho.1.symm) h12 hb6 ho) ?_ ?_ | refine call_ret (ojI (b := b) (o := o) (Rd.own0 rfl (by rfl) (by rfl )) (Rd.own 1 rfl (by rfl) ho.1.symm) h12 hb6 ho hQ.hs) ?_ ?_) )
  rw [hT]
  by_cases hn : b.length = 0
  · exact poBz hw hx hq h1 h2 h81 h82 hl1 hl2 hp hb6 h12 ho hQ hn
  · obtain ⟨D, few, hB⟩ := oB (by omega) hb6 ho hQ
    exact poB hw hx hq h1 h2 h81 h82 hl1 hl2 hp hb6 h12 ho hQ hB (by omega)
end Go.Proofs.YtaekjojblkhfdaaGreatDoor
namespace Go.Proofs.YtaekjojblkhfdaaGreatDoor
open Go Go.Sx
open Go.RowKit
theorem lawFnPageOrders {H : List Blk} {x1 x2 : V} {l1 l2 : List Int} (hp : PinR H) (h1 : Rd H x1 u8C l1) (h2 : Rd H x2 u8C l2) (h81 : B8 l1) (h82 : B8 l2) :
    Cal Tryz.prog 3 [x1, x2] H fun v H' => v = .v (.bool true) ∧ H' = H := by
  have hsol1 := h1.solid
  have hsol2 := h2.solid
  obtain ⟨T, hT⟩ : ∃ T, T = restC 5 (Tryz.f3.body.getD .skip) := ⟨_, rfl⟩
  by_cases hc1 : 4096 < (l1.length : Int)
  · have f1 : (4096 < (l1.length : Int)) = True := eq_true hc1
    refine cal_fn 504 mixed Tryz.func3 Tryz.ntmps3 Tryz.results3 rfl rfl rfl fun hw cx hx hq => ?_
    refine WK_cut 5 (T := T) (by rw [hT]; rfl) ?_
    simp only [graftC]
    repeat (first | (simp only [go_sem, Int.reduceLT, Int.reduceLE, Int.reduceEq, Int.reduceToNat, hsol1, hsol2, f1]) | ((with_reducible refine isSK ?_); refine call_ret (f6big h1) ?_ ?_ ) )
    refine ret_same hq _ (.inl rfl) ?_
    simp [go_sem]
  have f1 : (4096 < (l1.length : Int)) = False := eq_false hc1
  by_cases hc2 : 4096 < (l2.length : Int)
  · have f2 : (4096 < (l2.length : Int)) = True := eq_true hc2
    refine cal_fn 504 mixed Tryz.func3 Tryz.ntmps3 Tryz.results3 rfl rfl rfl fun hw cx hx hq => ?_
    refine WK_cut 5 (T := T) (by rw [hT]; rfl) ?_
    simp only [graftC]
    repeat (first | (simp only [go_sem, Int.reduceLT, Int.reduceLE, Int.reduceEq, Int.reduceToNat, hsol1, hsol2, f1, f2]) | ((with_reducible refine isSK ?_); first | refine call_ret (f6big h1) ?_ ?_ | refine call_ret (f6big h2) ?_ ?_) )
    refine ret_same hq _ (.inl rfl) ?_
    simp [go_sem]
  have f2 : (4096 < (l2.length : Int)) = False := eq_false hc2
  have hs12 : l1.length ≤ 4096 ∧ l2.length ≤ 4096 := by omega
  refine cal_fn 504 mixed Tryz.func3 Tryz.ntmps3 Tryz.results3 rfl rfl rfl fun hw cx hx hq => ?_
  refine WK_cut 5 (T := T) (by rw [hT]; rfl) ?_
  simp only [graftC]
  repeat (first | (simp only [go_sem, Int.reduceLT, Int.reduceLE, Int.reduceEq, Int.reduceToNat, hsol1, hsol2, f1, f2]) | ((with_reducible refine isSK ?_); first | refine call_ret (f6big h1) ?_ ?_ | refine call_ret (f6big h2) ?_ ?_) )
  refine call_ex (P6Book h1 h81 hs12.1) (by simp only [go_sem, hsol1]) ?_
  rintro _ H1 ⟨b, hb6, h12, rfl, hH⟩
  rw [hH]; clear hH H1
  repeat ((simp only [go_sem, Int.reduceLT, Int.reduceLE, Int.reduceEq, Int.reduceToNat, hsol1, hsol2]) )
  refine call_ex (P6OrderE h2.app h82 hs12.2 hb6) (by simp only [go_sem, hsol2]) ?_
  rintro _ H1 ⟨o, ho, rfl, hH⟩
  rw [hH]; clear hH H1
  repeat ((simp only [go_sem, Int.reduceLT, Int.reduceLE, Int.reduceEq, Int.reduceToNat]) )
  rw [hT]
  exact poA hw hx hq h1 h2 h81 h82 hs12.1 hs12.2 hp hb6 h12 ho (oQ ho)
end Go.Proofs.YtaekjojblkhfdaaGreatDoor
