/- Contracts of functions of the translated program, by the walk. -/
import Derived.Test.YtheeehjgmifclaaFc2
set_option linter.unusedVariables false
set_option linter.unusedSimpArgs false
set_option maxRecDepth 8000
set_option maxHeartbeats 4000000
namespace Go.Proofs.Ytheeehjgmifclaa
open Go Go.Sx
open Go.RowKit
theorem l05CelDrawn {H : List Blk} {cv : V} {l : List Int} (hr : Rd H cv u8C l) (h8 : B8 l) (hll : l.length ≤ 4096) :
    Cal Try.prog 90 [.p H.length 0] (H ++ [⟨[cv, .v (.int .i64 (0 : Int)), .v (.int .u64 0)], 141, .fix⟩]) fun u H' => ∃ (f g : Nat → Int) (b0 b1 b2 b3 b4 b5 b6 b7 : Blk), CelP f g ∧ u = .a (rowL .u16 12 (f) ++ rowL .u16 12 (g)) ∧ H' = H ++ [b0, b1, b2, b3, b4, b5, b6, b7] := by
  have hsol := hr.solid
  refine cal_fn 14 mixed Try.func90 Try.ntmps90 Try.results90 rfl rfl rfl fun hw cx hx hq => ?_
  repeat (first | (simp only [go_sem, Int.reduceLT, Int.reduceLE, Int.reduceEq, Int.reduceToNat, rowL_rep, cel0]) | ((with_reducible refine And.intro ?_ ?_); omega) | ((with_reducible refine isWKr (id := 5) ?_); refine WK_drawAt 5 [[],[],[0,1],[0,1,2]] (by kernel_rfl) ?_) | ((with_reducible refine And.intro ?_ ?_); first | (with_reducible rfl) | assumption | (simp only [go_sem]; done)))
  have hd := drawn1 (x1 := ⟨rowL .u16 12 (fun _ => 0) ++ rowL .u16 12 (fun _ => 0), 42, .fix⟩) (a := 0) (sd := 0) hr h8 hll (by omega) (by omega)
  refine call_ex hd (by simp only [go_sem]) ?_
  rintro _ _ ⟨f, a1, s1, hf, ha1, hs1, rfl, rfl⟩
  repeat (first | (simp only [go_sem, Int.reduceLT, Int.reduceLE, Int.reduceEq, Int.reduceToNat, rowL_rep, cel0]) | ((with_reducible refine And.intro ?_ ?_); omega) | ((with_reducible refine isWKr (id := 5) ?_); refine WK_drawAt 5 [[],[],[0,1],[0,1,2]] (by kernel_rfl) ?_) | ((with_reducible refine And.intro ?_ ?_); first | (with_reducible rfl) | assumption | (simp only [go_sem]; done)))
  have hd := drawn4 (x1 := ⟨rowL .u16 12 (fun _ => 0) ++ rowL .u16 12 (fun _ => 0), 42, .fix⟩) (x2 := ⟨rowL .u16 12 (f), 40, .fix⟩) (x3 := ⟨rowL .u16 12 (f), 40, .fix⟩) (x4 := ⟨rowL .u16 12 (f), 40, .fix⟩) (a := a1) (sd := s1) hr h8 hll (by omega) hs1
  refine call_ex hd (by simp only [go_sem]) ?_
  rintro _ _ ⟨w, a2, s2, hw12, ha2, hs2, rfl, rfl⟩
  have hcel : ∀ g : Nat → Int, F12 g → CelP f (joinF f g) := fun g hg => ⟨hf, joinC_12 hf hg, (okC_sub hf (joinC_12 hf hg)).2 fun x y hy hd => by rw [dot_joinF hf.r16 hg.r16 hy, hd]; rfl⟩
  have hge := grow_eq hf .u16
  have hone := one (H := H ++ [⟨[cv, .v (.int .i64 (a2 : Int)), .v (.int .u64 s2)], 141, .fix⟩, ⟨rowL .u16 12 (fun _ => 0) ++ rowL .u16 12 (fun _ => 0), 42, .fix⟩, ⟨rowL .u16 12 (f), 40, .fix⟩, ⟨rowL .u16 12 (f), 40, .fix⟩, ⟨rowL .u16 12 (f), 40, .fix⟩, ⟨rowL .u16 12 (w), 40, .fix⟩, ⟨rowL .u16 12 (w), 40, .fix⟩, ⟨rowL .u16 12 (w), 40, .fix⟩]) (i := H.length) (a := a2) (sd := s2) (n := 3) (l := l) (k := .fix) (by first | exact (Go.Sx.get_at0 _ _).trans rfl | exact (Go.Sx.get_at _ _ 1).trans rfl | exact (Go.Sx.get_at _ _ 2).trans rfl | exact (Go.Sx.get_at _ _ 3).trans rfl | exact (Go.Sx.get_at _ _ 4).trans rfl | exact (Go.Sx.get_at _ _ 5).trans rfl | exact (Go.Sx.get_at _ _ 6).trans rfl | exact (Go.Sx.get_at _ _ 7).trans rfl | exact (Go.Sx.get_at _ _ 8).trans rfl | exact (Go.Sx.get_at _ _ 9).trans rfl | exact (Go.Sx.get_at _ _ 10).trans rfl | exact (Go.Sx.get_at _ _ 11).trans rfl | exact (Go.Sx.get_at _ _ 12).trans rfl | exact (Go.Sx.get_at _ _ 13).trans rfl | exact (Go.Sx.get_at _ _ 14).trans rfl | exact (Go.Sx.get_at _ _ 15).trans rfl) rfl rfl hr.app h8 hll (by omega) hs2 (by omega)
  by_cases h1 : pkV l a2 s2 3 = 0
  · rw [decide_eq_true h1] at hone
    repeat (first | (simp only [go_sem, Int.reduceLT, Int.reduceLE, Int.reduceEq, Int.reduceToNat, rowL_rep, cel0, hge]) | ((with_reducible refine And.intro ?_ ?_); omega) | ((with_reducible refine isSK ?_); first | (refine call_ret (hone) (by simp only [go_sem, Int.reduceLT, Int.reduceLE, Int.reduceEq, Int.reduceToNat, rowL_rep, cel0, hge]) ?_) | (refine call_ret (l01Grow (f := f) (by first | exact At.mk0 rfl | exact At.mk' 1 rfl rfl | exact At.mk' 2 rfl rfl | exact At.mk' 3 rfl rfl | exact At.mk' 4 rfl rfl | exact At.mk' 5 rfl rfl | exact At.mk' 6 rfl rfl | exact At.mk' 7 rfl rfl | exact At.mk' 8 rfl rfl | exact At.mk' 9 rfl rfl | exact At.mk' 10 rfl rfl | exact At.mk' 11 rfl rfl | exact At.mk' 12 rfl rfl | exact At.mk' 13 rfl rfl | exact At.mk' 14 rfl rfl | exact At.mk' 15 rfl rfl) hf.r16) (by simp only [go_sem, Int.reduceLT, Int.reduceLE, Int.reduceEq, Int.reduceToNat, rowL_rep, cel0, hge]) ?_) | (refine call_ret (l01Join (f := f) (g := growI f) (by first | exact At.mk0 rfl | exact At.mk' 1 rfl rfl | exact At.mk' 2 rfl rfl | exact At.mk' 3 rfl rfl | exact At.mk' 4 rfl rfl | exact At.mk' 5 rfl rfl | exact At.mk' 6 rfl rfl | exact At.mk' 7 rfl rfl | exact At.mk' 8 rfl rfl | exact At.mk' 9 rfl rfl | exact At.mk' 10 rfl rfl | exact At.mk' 11 rfl rfl | exact At.mk' 12 rfl rfl | exact At.mk' 13 rfl rfl | exact At.mk' 14 rfl rfl | exact At.mk' 15 rfl rfl) (by first | exact At.mk0 rfl | exact At.mk' 1 rfl rfl | exact At.mk' 2 rfl rfl | exact At.mk' 3 rfl rfl | exact At.mk' 4 rfl rfl | exact At.mk' 5 rfl rfl | exact At.mk' 6 rfl rfl | exact At.mk' 7 rfl rfl | exact At.mk' 8 rfl rfl | exact At.mk' 9 rfl rfl | exact At.mk' 10 rfl rfl | exact At.mk' 11 rfl rfl | exact At.mk' 12 rfl rfl | exact At.mk' 13 rfl rfl | exact At.mk' 14 rfl rfl | exact At.mk' 15 rfl rfl)) (by simp only [go_sem, Int.reduceLT, Int.reduceLE, Int.reduceEq, Int.reduceToNat, rowL_rep, cel0, hge]) ?_)) | ((with_reducible refine isMC ?_); first | (refine mcall_ret (hone) (by simp only [go_sem, Int.reduceLT, Int.reduceLE, Int.reduceEq, Int.reduceToNat, rowL_rep, cel0, hge]) (by simp only [go_sem, Int.reduceLT, Int.reduceLE, Int.reduceEq, Int.reduceToNat, rowL_rep, cel0, hge]) ?_) | (refine mcall_ret (l01Grow (f := f) (by first | exact At.mk0 rfl | exact At.mk' 1 rfl rfl | exact At.mk' 2 rfl rfl | exact At.mk' 3 rfl rfl | exact At.mk' 4 rfl rfl | exact At.mk' 5 rfl rfl | exact At.mk' 6 rfl rfl | exact At.mk' 7 rfl rfl | exact At.mk' 8 rfl rfl | exact At.mk' 9 rfl rfl | exact At.mk' 10 rfl rfl | exact At.mk' 11 rfl rfl | exact At.mk' 12 rfl rfl | exact At.mk' 13 rfl rfl | exact At.mk' 14 rfl rfl | exact At.mk' 15 rfl rfl) hf.r16) (by simp only [go_sem, Int.reduceLT, Int.reduceLE, Int.reduceEq, Int.reduceToNat, rowL_rep, cel0, hge]) (by simp only [go_sem, Int.reduceLT, Int.reduceLE, Int.reduceEq, Int.reduceToNat, rowL_rep, cel0, hge]) ?_) | (refine mcall_ret (l01Join (f := f) (g := growI f) (by first | exact At.mk0 rfl | exact At.mk' 1 rfl rfl | exact At.mk' 2 rfl rfl | exact At.mk' 3 rfl rfl | exact At.mk' 4 rfl rfl | exact At.mk' 5 rfl rfl | exact At.mk' 6 rfl rfl | exact At.mk' 7 rfl rfl | exact At.mk' 8 rfl rfl | exact At.mk' 9 rfl rfl | exact At.mk' 10 rfl rfl | exact At.mk' 11 rfl rfl | exact At.mk' 12 rfl rfl | exact At.mk' 13 rfl rfl | exact At.mk' 14 rfl rfl | exact At.mk' 15 rfl rfl) (by first | exact At.mk0 rfl | exact At.mk' 1 rfl rfl | exact At.mk' 2 rfl rfl | exact At.mk' 3 rfl rfl | exact At.mk' 4 rfl rfl | exact At.mk' 5 rfl rfl | exact At.mk' 6 rfl rfl | exact At.mk' 7 rfl rfl | exact At.mk' 8 rfl rfl | exact At.mk' 9 rfl rfl | exact At.mk' 10 rfl rfl | exact At.mk' 11 rfl rfl | exact At.mk' 12 rfl rfl | exact At.mk' 13 rfl rfl | exact At.mk' 14 rfl rfl | exact At.mk' 15 rfl rfl)) (by simp only [go_sem, Int.reduceLT, Int.reduceLE, Int.reduceEq, Int.reduceToNat, rowL_rep, cel0, hge]) (by simp only [go_sem, Int.reduceLT, Int.reduceLE, Int.reduceEq, Int.reduceToNat, rowL_rep, cel0, hge]) ?_)) | ((with_reducible refine isWKr (id := 5) ?_); refine WK_drawAt 5 [[],[],[0,1],[0,1,2]] (by kernel_rfl) ?_) | ((with_reducible refine And.intro ?_ ?_); first | (with_reducible rfl) | assumption | (simp only [go_sem]; done)))
    refine ret_at hq _ (.inl rfl) (by simp) ?_
    simp only [go_sem]
    exact ⟨f, joinF f (growI f), _, _, _, _, _, _, _, _, hcel _ (growC_12 hf), rfl, rfl⟩
  · rw [decide_eq_false h1] at hone
    repeat (first | (simp only [go_sem, Int.reduceLT, Int.reduceLE, Int.reduceEq, Int.reduceToNat, rowL_rep, cel0]) | ((with_reducible refine And.intro ?_ ?_); omega) | ((with_reducible refine isSK ?_); first | (refine call_ret (hone) (by simp only [go_sem, Int.reduceLT, Int.reduceLE, Int.reduceEq, Int.reduceToNat, rowL_rep, cel0]) ?_) | (refine call_ret (l01Join (f := f) (g := w) (by first | exact At.mk0 rfl | exact At.mk' 1 rfl rfl | exact At.mk' 2 rfl rfl | exact At.mk' 3 rfl rfl | exact At.mk' 4 rfl rfl | exact At.mk' 5 rfl rfl | exact At.mk' 6 rfl rfl | exact At.mk' 7 rfl rfl | exact At.mk' 8 rfl rfl | exact At.mk' 9 rfl rfl | exact At.mk' 10 rfl rfl | exact At.mk' 11 rfl rfl | exact At.mk' 12 rfl rfl | exact At.mk' 13 rfl rfl | exact At.mk' 14 rfl rfl | exact At.mk' 15 rfl rfl) (by first | exact At.mk0 rfl | exact At.mk' 1 rfl rfl | exact At.mk' 2 rfl rfl | exact At.mk' 3 rfl rfl | exact At.mk' 4 rfl rfl | exact At.mk' 5 rfl rfl | exact At.mk' 6 rfl rfl | exact At.mk' 7 rfl rfl | exact At.mk' 8 rfl rfl | exact At.mk' 9 rfl rfl | exact At.mk' 10 rfl rfl | exact At.mk' 11 rfl rfl | exact At.mk' 12 rfl rfl | exact At.mk' 13 rfl rfl | exact At.mk' 14 rfl rfl | exact At.mk' 15 rfl rfl)) (by simp only [go_sem, Int.reduceLT, Int.reduceLE, Int.reduceEq, Int.reduceToNat, rowL_rep, cel0]) ?_)) | ((with_reducible refine isMC ?_); first | (refine mcall_ret (hone) (by simp only [go_sem, Int.reduceLT, Int.reduceLE, Int.reduceEq, Int.reduceToNat, rowL_rep, cel0]) (by simp only [go_sem, Int.reduceLT, Int.reduceLE, Int.reduceEq, Int.reduceToNat, rowL_rep, cel0]) ?_) | (refine mcall_ret (l01Join (f := f) (g := w) (by first | exact At.mk0 rfl | exact At.mk' 1 rfl rfl | exact At.mk' 2 rfl rfl | exact At.mk' 3 rfl rfl | exact At.mk' 4 rfl rfl | exact At.mk' 5 rfl rfl | exact At.mk' 6 rfl rfl | exact At.mk' 7 rfl rfl | exact At.mk' 8 rfl rfl | exact At.mk' 9 rfl rfl | exact At.mk' 10 rfl rfl | exact At.mk' 11 rfl rfl | exact At.mk' 12 rfl rfl | exact At.mk' 13 rfl rfl | exact At.mk' 14 rfl rfl | exact At.mk' 15 rfl rfl) (by first | exact At.mk0 rfl | exact At.mk' 1 rfl rfl | exact At.mk' 2 rfl rfl | exact At.mk' 3 rfl rfl | exact At.mk' 4 rfl rfl | exact At.mk' 5 rfl rfl | exact At.mk' 6 rfl rfl | exact At.mk' 7 rfl rfl | exact At.mk' 8 rfl rfl | exact At.mk' 9 rfl rfl | exact At.mk' 10 rfl rfl | exact At.mk' 11 rfl rfl | exact At.mk' 12 rfl rfl | exact At.mk' 13 rfl rfl | exact At.mk' 14 rfl rfl | exact At.mk' 15 rfl rfl)) (by simp only [go_sem, Int.reduceLT, Int.reduceLE, Int.reduceEq, Int.reduceToNat, rowL_rep, cel0]) (by simp only [go_sem, Int.reduceLT, Int.reduceLE, Int.reduceEq, Int.reduceToNat, rowL_rep, cel0]) ?_)) | ((with_reducible refine isWKr (id := 5) ?_); refine WK_drawAt 5 [[],[],[0,1],[0,1,2]] (by kernel_rfl) ?_) | ((with_reducible refine And.intro ?_ ?_); first | (with_reducible rfl) | assumption | (simp only [go_sem]; done)))
    refine ret_at hq _ (.inl rfl) (by simp) ?_
    simp only [go_sem]
    exact ⟨f, joinF f w, _, _, _, _, _, _, _, _, hcel _ hw12, rfl, rfl⟩
theorem A2Cel {H : List Blk} {cv : V} {l : List Int} (hr : Rd H cv u8C l) (h8 : B8 l) (hll : l.length ≤ 4096) :
    Cal Try.prog 46 [cv] H fun u H' => ∃ f g : Nat → Int, CelP f g ∧ u = .a (rowL .u16 12 (f) ++ rowL .u16 12 (g)) ∧ H' = H := by
  have hsol := hr.solid
  refine cal_fn 5 mixed Try.func46 Try.ntmps46 Try.results46 rfl rfl rfl fun hw cx hx hq => ?_
  repeat (first | (simp only [go_sem, Int.reduceLT, Int.reduceLE, Int.reduceEq, Int.reduceToNat, hsol, rowL_rep, cel0]) | ((with_reducible refine And.intro ?_ ?_); omega) | ((with_reducible refine isSK ?_); first | (refine call_ret (l00From hr.app) (by simp only [go_sem, Int.reduceLT, Int.reduceLE, Int.reduceEq, Int.reduceToNat, hsol, rowL_rep, cel0]) ?_)) | ((with_reducible refine isMC ?_); first | (refine mcall_ret (l00From hr.app) (by simp only [go_sem, Int.reduceLT, Int.reduceLE, Int.reduceEq, Int.reduceToNat, hsol, rowL_rep, cel0]) (by simp only [go_sem, Int.reduceLT, Int.reduceLE, Int.reduceEq, Int.reduceToNat, hsol, rowL_rep, cel0]) ?_)) | ((with_reducible refine And.intro ?_ ?_); first | (with_reducible rfl) | assumption | (simp only [go_sem]; done)))
  have hd := l05CelDrawn (H := H ++ [⟨rowL .u16 12 (fun _ => 0) ++ rowL .u16 12 (fun _ => 0), 42, .fix⟩]) (cv := cv) hr.app h8 hll
  simp only [List.append_assoc, List.singleton_append, List.length_append, List.length_singleton, Nat.add_assoc] at hd
  refine call_ex hd (by simp only [go_sem]) ?_
  rintro _ _ ⟨f, g, b0, b1, b2, b3, b4, b5, b6, b7, hc, rfl, rfl⟩
  repeat (first | (simp only [go_sem, Int.reduceLT, Int.reduceLE, Int.reduceEq, Int.reduceToNat, hsol]) | ((with_reducible refine And.intro ?_ ?_); omega) | ((with_reducible refine And.intro ?_ ?_); first | (with_reducible rfl) | assumption | (simp only [go_sem]; done)))
  refine ret_cut hq hw _ (.inl rfl) ?_
  simp only [go_sem]
  exact ⟨f, g, hc, rfl⟩
theorem a2Long {H : List Blk} {c1 c2 : V} {l1 l2 : List Int} (h1 : Rd H c1 u8C l1) (h2 : Rd H c2 u8C l2) :
    Cal Try.prog 45 [c1, c2] H fun u H' => u = .v (.bool (decide (3000 < (l1.length : Int)) || decide (3000 < (l2.length : Int)))) ∧ H' = H := by
  have hsol1 := h1.solid
  have hsol2 := h2.solid
  have hL1 := h1.lenV (P := Try.prog) slTy65
  have hL2 := h2.lenV (P := Try.prog) slTy65
  refine cal_fn 11 mixed Try.func45 Try.ntmps45 Try.results45 rfl rfl rfl fun hw cx hx hq => ?_
  by_cases e1 : (3000 : Int) < l1.length
  · have e1' := eq_true e1
    repeat (first | (simp only [go_sem, Int.reduceLT, Int.reduceLE, Int.reduceEq, Int.reduceToNat, hsol1, hsol2, hL1, hL2, e1']) | ((with_reducible refine And.intro ?_ ?_); omega) | ((with_reducible refine And.intro ?_ ?_); first | (with_reducible rfl) | assumption | (simp only [go_sem]; done)))
    refine ret_same hq _ (.inl rfl) ?_
    simp [go_sem, e1]
  · have e1' := eq_false e1
    repeat (first | (simp only [go_sem, Int.reduceLT, Int.reduceLE, Int.reduceEq, Int.reduceToNat, hsol1, hsol2, hL1, hL2, e1']) | ((with_reducible refine And.intro ?_ ?_); omega) | ((with_reducible refine And.intro ?_ ?_); first | (with_reducible rfl) | assumption | (simp only [go_sem]; done)))
    refine ret_same hq _ (.inl rfl) ?_
    simp [go_sem, e1]
theorem a2At {H : List Blk} {cv : V} {l : List Int} (hr : Rd H cv u8C l) (h8 : B8 l) :
    Cal Try.prog 53 [cv, .v (.int .i64 0), .v (.int .i64 25)] H fun u H' => ∃ x : Int, (0 ≤ x ∧ x ≤ 24) ∧ u = .v (.int .i64 x) ∧ H' = H := by
  have hsol := hr.solid
  have hL := hr.lenV (P := Try.prog) slTy65
  refine cal_fn 19 mixed Try.func53 Try.ntmps53 Try.results53 rfl rfl rfl fun hw cx hx hq => ?_
  by_cases hc : 0 < l.length
  · obtain ⟨j, off, c, b, rfl, hat, hf⟩ := hr.full (by omega)
    have hfl : (l.flatMap u8C).length = l.length := by rw [flat_u8.flen, Nat.mul_one]
    rw [hfl] at hf
    have an := hat.u8 hc
    have hb8 := h8 _ (List.getElem_mem hc)
    have hc1 : ((l.length : Int) ≤ 0) = False := eq_false (by omega)
    have m1 : 0 ≤ (l[0]).tmod 25 := Int.tmod_nonneg _ (by omega)
    have m2 : (l[0]).tmod 25 < 25 := Int.tmod_lt_of_pos _ (by omega)
    simp only [Nat.add_zero] at an
    repeat (first | (simp only [go_sem, Int.reduceLT, Int.reduceLE, Int.reduceEq, Int.reduceToNat, hsol, hL, hc1, hat.get, hat.live, an]) | ((with_reducible refine And.intro ?_ ?_); omega) | ((with_reducible refine And.intro ?_ ?_); first | (with_reducible rfl) | assumption | (simp only [go_sem]; done)))
    refine ret_same hq _ (.inl rfl) ?_
    simp only [go_sem]
    exact ⟨_, ⟨m1, by omega⟩, rfl⟩
  · have hc1 : ((l.length : Int) ≤ 0) = True := eq_true (by omega)
    repeat (first | (simp only [go_sem, Int.reduceLT, Int.reduceLE, Int.reduceEq, Int.reduceToNat, hsol, hL, hc1]) | ((with_reducible refine And.intro ?_ ?_); omega) | ((with_reducible refine And.intro ?_ ?_); first | (with_reducible rfl) | assumption | (simp only [go_sem]; done)))
    refine ret_same hq _ (.inl rfl) ?_
    simp only [go_sem]
    exact ⟨0, by omega, rfl⟩
end Go.Proofs.Ytheeehjgmifclaa

