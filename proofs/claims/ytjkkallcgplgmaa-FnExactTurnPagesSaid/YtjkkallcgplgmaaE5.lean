/- Contracts of functions of the translated program, by the walk. -/
import Derived.Test.YtjkkallcgplgmaaE4
import Derived.Test.YtjkkallcgplgmaaB3
set_option linter.unusedVariables false
set_option linter.unusedSimpArgs false
set_option maxRecDepth 8000
set_option maxHeartbeats 4000000
namespace Go.Proofs.Ytjkkallcgplgmaa
open Go Go.Sx
theorem specTurnPages_early {H : List Blk} {v w : V} {l Q : List (Nat → Int)} (h : Rd H v (rowL .u16 12) l) (hw2 : Rd H w (rowL .i64 2) Q) (hl : l.length ≤ 1000000) (hT1 : Q.length ≤ 1000000) (hc : okB l = false ∨ 200 < Q.length) :
    Cal Try.prog 21 [v, w] H fun u H' => u = .t [.s H.length 0 0 (.u 0), .v (.int .i64 (tpC l Q))] ∧ H' = H ++ [⟨[], 64, .own 12⟩] := by
  have hsol := h.solid
  have hT := hw2.lenV (P := Try.prog) slTy31
  refine cal_fn 63 mixed Try.func21 Try.ntmps21 Try.results21 rfl rfl rfl fun hw cx hx hq => ?_
  by_cases e : okB l = true
  · have e2 : ((200 : Int) < (Q.length : Int)) = True := by apply eq_true; rcases hc with hc | hc; · rw [hc] at e; cases e
                                                            omega
    have hC : tpC l Q = 3 := by unfold tpC; rw [if_pos e, if_neg (by simp at e2; omega)]
    repeat (first | (simp only [go_sem, Int.reduceLT, Int.reduceLE, Int.reduceEq, Int.reduceToNat, hsol, e, hT, e2]) | ((with_reducible refine And.intro ?_ ?_); omega) | ((with_reducible refine isSK ?_); first | (refine call_ret (l02Ok h (by omega)) (by simp only [go_sem, Int.reduceLT, Int.reduceLE, Int.reduceEq, Int.reduceToNat, hsol, e, hT, e2]) ?_)) | ((with_reducible refine isMC ?_); first | (refine mcall_ret (l02Ok h (by omega)) (by simp only [go_sem, Int.reduceLT, Int.reduceLE, Int.reduceEq, Int.reduceToNat, hsol, e, hT, e2]) (by simp only [go_sem, Int.reduceLT, Int.reduceLE, Int.reduceEq, Int.reduceToNat, hsol, e, hT, e2]) ?_)) | ((with_reducible refine isWKr (id := 9) ?_); refine WK_drawUp 9 [[],[],[0,1],[0,1,2],[0,1,2,3],[],[],[5,6],[5,6,7],[5,6,7,8],[0,1,2,3,4,5,6,7,8,9],[0,1,2,3,4,5,6,7,8,9,10],[0,1,2,3,4,5,6,7,8,9,10,11],[0,1,2,3,4,5,6,7,8,9,10,11,12],[0,1,2,3,4,5,6,7,8,9,10,11,12],[0,1,2,3,4,5,6,7,8,9,10,11,12,13,14],[0,1,2,3,4,5,6,7,8,9,10,11,12,13,14,15],[0,1,2,3,4,5,6,7,8,9,10,11,12,13,14,15,16],[0,1,2,3,4,5,6,7,8,9,10,11,12],[0,1,2,3,4,5,6,7,8,9,10,11,12,18],[0,1,2,3,4,5,6,7,8,9,10,11,12,18,19],[0,1,2,3,4,5,6,7,8,9,10,11,12,13,14,15,16,17,18,19,20],[0,1,2,3,4,5,6,7,8,9,10,11,12,13,14,15,16,17,18,19,20,21],[0,1,2,3,4,5,6,7,8,9,10,11,12,13,14,15,16,17,18,19,20,21,22]] 21 (by kernel_rfl) ?_; dsimp only [List.take, List.drop]) | ((with_reducible refine isWKr (id := 11) ?_); refine WK_drawUp 11 [[],[],[],[1,2],[1,2,3],[1,2,3,4],[],[],[6,7],[6,7,8],[6,7,8,9],[0,1,2,3,4,5,6,7,8,9,10],[0,1,2,3,4,5,6,7,8,9,10,11]] 11 (by kernel_rfl) ?_; dsimp only [List.take, List.drop]) | ((with_reducible refine And.intro ?_ ?_); first | (with_reducible rfl) | assumption | (simp only [go_sem]; done)))
    refine ret_at hq _ (.inl rfl) (by simp) ?_
    simp [go_sem, hC]
  · have hC : tpC l Q = 1 := by unfold tpC; rw [if_neg e]
    rw [Bool.not_eq_true] at e
    repeat (first | (simp only [go_sem, Int.reduceLT, Int.reduceLE, Int.reduceEq, Int.reduceToNat, hsol, e]) | ((with_reducible refine And.intro ?_ ?_); omega) | ((with_reducible refine isSK ?_); first | (refine call_ret (l02Ok h (by omega)) (by simp only [go_sem, Int.reduceLT, Int.reduceLE, Int.reduceEq, Int.reduceToNat, hsol, e]) ?_)) | ((with_reducible refine isMC ?_); first | (refine mcall_ret (l02Ok h (by omega)) (by simp only [go_sem, Int.reduceLT, Int.reduceLE, Int.reduceEq, Int.reduceToNat, hsol, e]) (by simp only [go_sem, Int.reduceLT, Int.reduceLE, Int.reduceEq, Int.reduceToNat, hsol, e]) ?_)) | ((with_reducible refine isWKr (id := 9) ?_); refine WK_drawUp 9 [[],[],[0,1],[0,1,2],[0,1,2,3],[],[],[5,6],[5,6,7],[5,6,7,8],[0,1,2,3,4,5,6,7,8,9],[0,1,2,3,4,5,6,7,8,9,10],[0,1,2,3,4,5,6,7,8,9,10,11],[0,1,2,3,4,5,6,7,8,9,10,11,12],[0,1,2,3,4,5,6,7,8,9,10,11,12],[0,1,2,3,4,5,6,7,8,9,10,11,12,13,14],[0,1,2,3,4,5,6,7,8,9,10,11,12,13,14,15],[0,1,2,3,4,5,6,7,8,9,10,11,12,13,14,15,16],[0,1,2,3,4,5,6,7,8,9,10,11,12],[0,1,2,3,4,5,6,7,8,9,10,11,12,18],[0,1,2,3,4,5,6,7,8,9,10,11,12,18,19],[0,1,2,3,4,5,6,7,8,9,10,11,12,13,14,15,16,17,18,19,20],[0,1,2,3,4,5,6,7,8,9,10,11,12,13,14,15,16,17,18,19,20,21],[0,1,2,3,4,5,6,7,8,9,10,11,12,13,14,15,16,17,18,19,20,21,22]] 21 (by kernel_rfl) ?_; dsimp only [List.take, List.drop]) | ((with_reducible refine isWKr (id := 11) ?_); refine WK_drawUp 11 [[],[],[],[1,2],[1,2,3],[1,2,3,4],[],[],[6,7],[6,7,8],[6,7,8,9],[0,1,2,3,4,5,6,7,8,9,10],[0,1,2,3,4,5,6,7,8,9,10,11]] 11 (by kernel_rfl) ?_; dsimp only [List.take, List.drop]) | ((with_reducible refine And.intro ?_ ?_); first | (with_reducible rfl) | assumption | (simp only [go_sem]; done)))
    refine ret_at hq _ (.inl rfl) (by simp) ?_
    simp [go_sem, hC]


theorem specTurnPages_bad {H : List Blk} {v w : V} {l Q : List (Nat → Int)} (h : Rd H v (rowL .u16 12) l) (hw2 : Rd H w (rowL .i64 2) Q) (hl : l.length ≤ 1000000) (e : okB l = true) (hT1 : Q.length ≤ 200) (hv0 : ∃ f ∈ Q, validT l.length f = false) :
    Cal Try.prog 21 [v, w] H fun u H' => u = .t [.s H.length 0 0 (.u 0), .v (.int .i64 (tpC l Q))] ∧ H' = H ++ [⟨[], 64, .own 12⟩] := by
  have hsol := h.solid
  have hsol2 := hw2.solid
  have hL := h.lenV (P := Try.prog) slTy27
  have hT := hw2.lenV (P := Try.prog) slTy31
  have e2 : ((200 : Int) < (Q.length : Int)) = False := eq_false (by omega)
  have hvl : V.lt H.length v = True := h.vlt (Nat.le_refl _)
  have hwl : V.lt H.length w = True := hw2.vlt (Nat.le_refl _)
  have hvr : renV H.length 1 v v = True := eq_true (renV_lt H.length 1 v (by rw [hvl]; trivial) (solid_ne hsol))
  refine cal_fn 63 mixed Try.func21 Try.ntmps21 Try.results21 rfl rfl rfl fun hw cx hx hq => ?_
  repeat (first | (simp only [go_sem, Int.reduceLT, Int.reduceLE, Int.reduceEq, Int.reduceToNat, hsol, e, hT, e2, hL]) | ((with_reducible refine And.intro ?_ ?_); omega) | ((with_reducible refine isSK ?_); first | (refine call_ret (l02Ok h (by omega)) (by simp only [go_sem, Int.reduceLT, Int.reduceLE, Int.reduceEq, Int.reduceToNat, hsol, e, hT, e2, hL]) ?_) | (refine call_ret (l04Plain hl) (by simp only [go_sem, Int.reduceLT, Int.reduceLE, Int.reduceEq, Int.reduceToNat, hsol, e, hT, e2, hL]) ?_)) | ((with_reducible refine isMC ?_); first | (refine mcall_ret (l02Ok h (by omega)) (by simp only [go_sem, Int.reduceLT, Int.reduceLE, Int.reduceEq, Int.reduceToNat, hsol, e, hT, e2, hL]) (by simp only [go_sem, Int.reduceLT, Int.reduceLE, Int.reduceEq, Int.reduceToNat, hsol, e, hT, e2, hL]) ?_) | (refine mcall_ret (l04Plain hl) (by simp only [go_sem, Int.reduceLT, Int.reduceLE, Int.reduceEq, Int.reduceToNat, hsol, e, hT, e2, hL]) (by simp only [go_sem, Int.reduceLT, Int.reduceLE, Int.reduceEq, Int.reduceToNat, hsol, e, hT, e2, hL]) ?_)) | ((with_reducible refine isWKr (id := 9) ?_); refine WK_drawUp 9 [[],[],[0,1],[0,1,2],[0,1,2,3],[],[],[5,6],[5,6,7],[5,6,7,8],[0,1,2,3,4,5,6,7,8,9],[0,1,2,3,4,5,6,7,8,9,10],[0,1,2,3,4,5,6,7,8,9,10,11],[0,1,2,3,4,5,6,7,8,9,10,11,12],[0,1,2,3,4,5,6,7,8,9,10,11,12],[0,1,2,3,4,5,6,7,8,9,10,11,12,13,14],[0,1,2,3,4,5,6,7,8,9,10,11,12,13,14,15],[0,1,2,3,4,5,6,7,8,9,10,11,12,13,14,15,16],[0,1,2,3,4,5,6,7,8,9,10,11,12],[0,1,2,3,4,5,6,7,8,9,10,11,12,18],[0,1,2,3,4,5,6,7,8,9,10,11,12,18,19],[0,1,2,3,4,5,6,7,8,9,10,11,12,13,14,15,16,17,18,19,20],[0,1,2,3,4,5,6,7,8,9,10,11,12,13,14,15,16,17,18,19,20,21],[0,1,2,3,4,5,6,7,8,9,10,11,12,13,14,15,16,17,18,19,20,21,22]] 21 (by kernel_rfl) ?_; dsimp only [List.take, List.drop]) | ((with_reducible refine isWKr (id := 11) ?_); refine WK_drawUp 11 [[],[],[],[1,2],[1,2,3],[1,2,3,4],[],[],[6,7],[6,7,8],[6,7,8,9],[0,1,2,3,4,5,6,7,8,9,10],[0,1,2,3,4,5,6,7,8,9,10,11]] 11 (by kernel_rfl) ?_; dsimp only [List.take, List.drop]) | ((with_reducible refine And.intro ?_ ?_); first | (with_reducible rfl) | assumption | (simp only [go_sem]; done)))
  refine WK_for (fun t : Nat => ⟨[v, w, .any, .any, .any, .any, .s H.length 0 l.length (.u 0), .v (.int .i64 t)] ++ junk 57, H ++ [⟨(tpL (plainL l.length) (Q.take t)).flatMap i64C, 2, .own 1⟩]⟩) (fun t => t ≤ Q.length ∧ ∀ j (hj : j < Q.length), j < t → validT l.length Q[j] = true) (fun t => Q.length - t) 0 (Weak.slots ?_) ?_ fun t ht => ?_
  · simp [go_sem]
  · simp
  have hval : ∀ f ∈ Q.take t, validT l.length f = true := fun f hf => by
    obtain ⟨j, hj, rfl⟩ := List.mem_iff_getElem.1 hf
    rw [List.getElem_take]; simp at hj; exact ht.2 j (by omega) (by omega)
  have htl : (tpL (plainL l.length) (Q.take t)).length = l.length := by
    rw [tpL_len _ _ (by rw [plainL_len]; exact hval), plainL_len]
  rcases Int.lt_or_le (t : Int) Q.length with hc | hc
  · have hj : t < Q.length := by omega
    obtain ⟨i2, off2, c2, b2, rfl, hat2, hfit2⟩ := hw2.full (by omega)
    have hlt2 := hat2.lt
    have ae := hat2.el hz2 hj
    have hfit0 := hat2.fits (rowL .i64 2) 2 hz2 hj (by omega)
    have c0 : cel b2.cells (off2 + t * 2 + 0) = .v (.int .i64 (Q[t] 0)) := ae.cel (by omega)
    have c1 : cel b2.cells (off2 + t * 2 + 1) = .v (.int .i64 (Q[t] 1)) := ae.cel (by omega)
    simp only [Nat.add_zero] at c0
    rw [Nat.add_assoc] at c1
    have g2 : ∀ L : List Blk, (H ++ L)[i2]? = some b2 := fun L => get_app hat2.get
    by_cases hv : validT l.length Q[t] = true
    · have hv2 := validT_iff.1 hv
      have hs := tpL_take (plainL l.length) hj
      obtain ⟨p, hp⟩ : ∃ p : Nat, Q[t] 0 = p := ⟨(Q[t] 0).toNat, by omega⟩
      obtain ⟨q, hq2⟩ : ∃ q : Nat, Q[t] 1 = q := ⟨(Q[t] 1).toNat, by omega⟩
      rw [hp, hq2] at hs
      rw [hp] at c0
      rw [hq2] at c1
      simp only [Int.toNat_natCast] at hs
      have hpq : p ≤ q := by omega
      have hqn : q < l.length := by omega
      have h1 : (decide (0 ≤ (p : Int)) && decide ((p : Int) ≤ (q : Int))) = true := by simp; omega
      have h2 : (decide (0 ≤ (q : Int)) && decide ((q : Int) ≤ (l.length : Int) - 1)) = true := by simp; omega
      repeat (first | (simp only [go_sem, Int.reduceLT, Int.reduceLE, Int.reduceEq, Int.reduceToNat, hT, hL, hc, g2, hat2.live, c0, c1, hlt2, hfit0, h1, h2]) | ((with_reducible refine And.intro ?_ ?_); omega) | ((with_reducible refine isSK ?_); first | (refine call_ret (l00In) (by simp only [go_sem, Int.reduceLT, Int.reduceLE, Int.reduceEq, Int.reduceToNat, hT, hL, hc, g2, hat2.live, c0, c1, hlt2, hfit0, h1, h2]) ?_) | (refine call_ret (l04T (l := tpL (plainL l.length) (Q.take t)) (by first | exact (Go.Sx.get_at0 _ _).trans rfl | exact (Go.Sx.get_at _ _ 1).trans rfl | exact (Go.Sx.get_at _ _ 2).trans rfl | exact (Go.Sx.get_at _ _ 3).trans rfl | exact (Go.Sx.get_at _ _ 4).trans rfl | exact (Go.Sx.get_at _ _ 5).trans rfl | exact (Go.Sx.get_at _ _ 6).trans rfl | exact (Go.Sx.get_at _ _ 7).trans rfl | exact (Go.Sx.get_at _ _ 8).trans rfl | exact (Go.Sx.get_at _ _ 9).trans rfl | exact (Go.Sx.get_at _ _ 10).trans rfl | exact (Go.Sx.get_at _ _ 11).trans rfl) hpq (by omega) (by omega) htl.symm) (by simp only [go_sem, Int.reduceLT, Int.reduceLE, Int.reduceEq, Int.reduceToNat, hT, hL, hc, g2, hat2.live, c0, c1, hlt2, hfit0, h1, h2]) ?_)) | ((with_reducible refine isMC ?_); first | (refine mcall_ret (l00In) (by simp only [go_sem, Int.reduceLT, Int.reduceLE, Int.reduceEq, Int.reduceToNat, hT, hL, hc, g2, hat2.live, c0, c1, hlt2, hfit0, h1, h2]) (by simp only [go_sem, Int.reduceLT, Int.reduceLE, Int.reduceEq, Int.reduceToNat, hT, hL, hc, g2, hat2.live, c0, c1, hlt2, hfit0, h1, h2]) ?_) | (refine mcall_ret (l04T (l := tpL (plainL l.length) (Q.take t)) (by first | exact (Go.Sx.get_at0 _ _).trans rfl | exact (Go.Sx.get_at _ _ 1).trans rfl | exact (Go.Sx.get_at _ _ 2).trans rfl | exact (Go.Sx.get_at _ _ 3).trans rfl | exact (Go.Sx.get_at _ _ 4).trans rfl | exact (Go.Sx.get_at _ _ 5).trans rfl | exact (Go.Sx.get_at _ _ 6).trans rfl | exact (Go.Sx.get_at _ _ 7).trans rfl | exact (Go.Sx.get_at _ _ 8).trans rfl | exact (Go.Sx.get_at _ _ 9).trans rfl | exact (Go.Sx.get_at _ _ 10).trans rfl | exact (Go.Sx.get_at _ _ 11).trans rfl) hpq (by omega) (by omega) htl.symm) (by simp only [go_sem, Int.reduceLT, Int.reduceLE, Int.reduceEq, Int.reduceToNat, hT, hL, hc, g2, hat2.live, c0, c1, hlt2, hfit0, h1, h2]) (by simp only [go_sem, Int.reduceLT, Int.reduceLE, Int.reduceEq, Int.reduceToNat, hT, hL, hc, g2, hat2.live, c0, c1, hlt2, hfit0, h1, h2]) ?_)) | ((with_reducible refine isWKr (id := 9) ?_); refine WK_drawUp 9 [[],[],[0,1],[0,1,2],[0,1,2,3],[],[],[5,6],[5,6,7],[5,6,7,8],[0,1,2,3,4,5,6,7,8,9],[0,1,2,3,4,5,6,7,8,9,10],[0,1,2,3,4,5,6,7,8,9,10,11],[0,1,2,3,4,5,6,7,8,9,10,11,12],[0,1,2,3,4,5,6,7,8,9,10,11,12],[0,1,2,3,4,5,6,7,8,9,10,11,12,13,14],[0,1,2,3,4,5,6,7,8,9,10,11,12,13,14,15],[0,1,2,3,4,5,6,7,8,9,10,11,12,13,14,15,16],[0,1,2,3,4,5,6,7,8,9,10,11,12],[0,1,2,3,4,5,6,7,8,9,10,11,12,18],[0,1,2,3,4,5,6,7,8,9,10,11,12,18,19],[0,1,2,3,4,5,6,7,8,9,10,11,12,13,14,15,16,17,18,19,20],[0,1,2,3,4,5,6,7,8,9,10,11,12,13,14,15,16,17,18,19,20,21],[0,1,2,3,4,5,6,7,8,9,10,11,12,13,14,15,16,17,18,19,20,21,22]] 21 (by kernel_rfl) ?_; dsimp only [List.take, List.drop]) | ((with_reducible refine isWKr (id := 11) ?_); refine WK_drawUp 11 [[],[],[],[1,2],[1,2,3],[1,2,3,4],[],[],[6,7],[6,7,8],[6,7,8,9],[0,1,2,3,4,5,6,7,8,9,10],[0,1,2,3,4,5,6,7,8,9,10,11]] 11 (by kernel_rfl) ?_; dsimp only [List.take, List.drop]) | ((with_reducible refine And.intro ?_ ?_); first | (with_reducible rfl) | assumption | (simp only [go_sem]; done)))
      refine EK_again (t + 1) ?_ ⟨by omega, fun j hj2 hj3 => ?_⟩ (by omega)
      · rw [hs]
        exact Weak.only 1 rfl (by simp [hx]) (by simp [go_sem, flat_i64.lts]) hw (by simp [go_sem, hvr, hlt2] <;> omega)
      · by_cases e3 : j = t
        · subst e3; exact hv
        · exact ht.2 j hj2 (by omega)
    · have hC : tpC l Q = 2 := by
        unfold tpC; rw [if_pos e, if_pos hT1, if_neg]
        intro h3; exact hv (List.all_eq_true.1 h3 _ (List.getElem_mem hj))
      have hv2 : ¬(0 ≤ Q[t] 0 ∧ Q[t] 0 ≤ Q[t] 1 ∧ Q[t] 1 < l.length) := fun e => hv (validT_iff.2 e)
      have hfin : ∀ σ : Nat → Loc, True := fun _ => trivial
      by_cases h1 : (decide (0 ≤ Q[t] 0) && decide (Q[t] 0 ≤ Q[t] 1)) = true
      · have h2 : (decide (0 ≤ Q[t] 1) && decide (Q[t] 1 ≤ (l.length : Int) - 1)) = false := by
          rw [Bool.eq_false_iff]; simp at h1 ⊢; omega
        repeat (first | (simp only [go_sem, Int.reduceLT, Int.reduceLE, Int.reduceEq, Int.reduceToNat, hT, hL, hc, g2, hat2.live, c0, c1, hlt2, hfit0, h1, h2]) | ((with_reducible refine And.intro ?_ ?_); omega) | ((with_reducible refine isSK ?_); first | (refine call_ret (l00In) (by simp only [go_sem, Int.reduceLT, Int.reduceLE, Int.reduceEq, Int.reduceToNat, hT, hL, hc, g2, hat2.live, c0, c1, hlt2, hfit0, h1, h2]) ?_)) | ((with_reducible refine isMC ?_); first | (refine mcall_ret (l00In) (by simp only [go_sem, Int.reduceLT, Int.reduceLE, Int.reduceEq, Int.reduceToNat, hT, hL, hc, g2, hat2.live, c0, c1, hlt2, hfit0, h1, h2]) (by simp only [go_sem, Int.reduceLT, Int.reduceLE, Int.reduceEq, Int.reduceToNat, hT, hL, hc, g2, hat2.live, c0, c1, hlt2, hfit0, h1, h2]) ?_)) | ((with_reducible refine isWKr (id := 9) ?_); refine WK_drawUp 9 [[],[],[0,1],[0,1,2],[0,1,2,3],[],[],[5,6],[5,6,7],[5,6,7,8],[0,1,2,3,4,5,6,7,8,9],[0,1,2,3,4,5,6,7,8,9,10],[0,1,2,3,4,5,6,7,8,9,10,11],[0,1,2,3,4,5,6,7,8,9,10,11,12],[0,1,2,3,4,5,6,7,8,9,10,11,12],[0,1,2,3,4,5,6,7,8,9,10,11,12,13,14],[0,1,2,3,4,5,6,7,8,9,10,11,12,13,14,15],[0,1,2,3,4,5,6,7,8,9,10,11,12,13,14,15,16],[0,1,2,3,4,5,6,7,8,9,10,11,12],[0,1,2,3,4,5,6,7,8,9,10,11,12,18],[0,1,2,3,4,5,6,7,8,9,10,11,12,18,19],[0,1,2,3,4,5,6,7,8,9,10,11,12,13,14,15,16,17,18,19,20],[0,1,2,3,4,5,6,7,8,9,10,11,12,13,14,15,16,17,18,19,20,21],[0,1,2,3,4,5,6,7,8,9,10,11,12,13,14,15,16,17,18,19,20,21,22]] 21 (by kernel_rfl) ?_; dsimp only [List.take, List.drop]) | ((with_reducible refine isWKr (id := 11) ?_); refine WK_drawUp 11 [[],[],[],[1,2],[1,2,3],[1,2,3,4],[],[],[6,7],[6,7,8],[6,7,8,9],[0,1,2,3,4,5,6,7,8,9,10],[0,1,2,3,4,5,6,7,8,9,10,11]] 11 (by kernel_rfl) ?_; dsimp only [List.take, List.drop]) | ((with_reducible refine And.intro ?_ ?_); first | (with_reducible rfl) | assumption | (simp only [go_sem]; done)))
        refine ret_one hq hw _ (.inl rfl) 1 rfl (by simp [go_sem]) (.t [.s H.length 0 0 (.u 0), .v (.int .i64 (tpC l Q))]) (by simp [go_sem]) ?_
        simp [go_sem, conc, concs, upσ, Cap.val, hC]
      · rw [Bool.not_eq_true] at h1
        repeat (first | (simp only [go_sem, Int.reduceLT, Int.reduceLE, Int.reduceEq, Int.reduceToNat, hT, hL, hc, g2, hat2.live, c0, c1, hlt2, hfit0, h1]) | ((with_reducible refine And.intro ?_ ?_); omega) | ((with_reducible refine isSK ?_); first | (refine call_ret (l00In) (by simp only [go_sem, Int.reduceLT, Int.reduceLE, Int.reduceEq, Int.reduceToNat, hT, hL, hc, g2, hat2.live, c0, c1, hlt2, hfit0, h1]) ?_)) | ((with_reducible refine isMC ?_); first | (refine mcall_ret (l00In) (by simp only [go_sem, Int.reduceLT, Int.reduceLE, Int.reduceEq, Int.reduceToNat, hT, hL, hc, g2, hat2.live, c0, c1, hlt2, hfit0, h1]) (by simp only [go_sem, Int.reduceLT, Int.reduceLE, Int.reduceEq, Int.reduceToNat, hT, hL, hc, g2, hat2.live, c0, c1, hlt2, hfit0, h1]) ?_)) | ((with_reducible refine isWKr (id := 9) ?_); refine WK_drawUp 9 [[],[],[0,1],[0,1,2],[0,1,2,3],[],[],[5,6],[5,6,7],[5,6,7,8],[0,1,2,3,4,5,6,7,8,9],[0,1,2,3,4,5,6,7,8,9,10],[0,1,2,3,4,5,6,7,8,9,10,11],[0,1,2,3,4,5,6,7,8,9,10,11,12],[0,1,2,3,4,5,6,7,8,9,10,11,12],[0,1,2,3,4,5,6,7,8,9,10,11,12,13,14],[0,1,2,3,4,5,6,7,8,9,10,11,12,13,14,15],[0,1,2,3,4,5,6,7,8,9,10,11,12,13,14,15,16],[0,1,2,3,4,5,6,7,8,9,10,11,12],[0,1,2,3,4,5,6,7,8,9,10,11,12,18],[0,1,2,3,4,5,6,7,8,9,10,11,12,18,19],[0,1,2,3,4,5,6,7,8,9,10,11,12,13,14,15,16,17,18,19,20],[0,1,2,3,4,5,6,7,8,9,10,11,12,13,14,15,16,17,18,19,20,21],[0,1,2,3,4,5,6,7,8,9,10,11,12,13,14,15,16,17,18,19,20,21,22]] 21 (by kernel_rfl) ?_; dsimp only [List.take, List.drop]) | ((with_reducible refine isWKr (id := 11) ?_); refine WK_drawUp 11 [[],[],[],[1,2],[1,2,3],[1,2,3,4],[],[],[6,7],[6,7,8],[6,7,8,9],[0,1,2,3,4,5,6,7,8,9,10],[0,1,2,3,4,5,6,7,8,9,10,11]] 11 (by kernel_rfl) ?_; dsimp only [List.take, List.drop]) | ((with_reducible refine And.intro ?_ ?_); first | (with_reducible rfl) | assumption | (simp only [go_sem]; done)))
        refine ret_one hq hw _ (.inl rfl) 1 rfl (by simp [go_sem]) (.t [.s H.length 0 0 (.u 0), .v (.int .i64 (tpC l Q))]) (by simp [go_sem]) ?_
        simp [go_sem, conc, concs, upσ, Cap.val, hC]
  · have : t = Q.length := by omega
    subst this
    exfalso
    obtain ⟨f, hf, hfv⟩ := hv0
    obtain ⟨j, hj, rfl⟩ := List.mem_iff_getElem.1 hf
    have := ht.2 j hj hj
    rw [hfv] at this; cases this


theorem specTurnPages_ok {H : List Blk} {v w : V} {l Q : List (Nat → Int)} (h : Rd H v (rowL .u16 12) l) (hw2 : Rd H w (rowL .i64 2) Q) (hl : l.length ≤ 1000000) (e : okB l = true) (hT1 : Q.length ≤ 200) (hv0 : ∀ f ∈ Q, validT l.length f = true) :
    Cal Try.prog 21 [v, w] H fun u H' => u = .t [.s H.length 0 l.length (.u 0), .v (.int .i64 0)] ∧ H' = H ++ [⟨(tpL l Q).flatMap (rowL .u16 12), 64, .own 12⟩] := by
  have hsol := h.solid
  have hsol2 := hw2.solid
  have hL := h.lenV (P := Try.prog) slTy27
  have hT := hw2.lenV (P := Try.prog) slTy31
  have e2 : ((200 : Int) < (Q.length : Int)) = False := eq_false (by omega)
  have hvl : V.lt H.length v = True := h.vlt (Nat.le_refl _)
  have hwl : V.lt H.length w = True := hw2.vlt (Nat.le_refl _)
  have hvr : renV H.length 1 v v = True := eq_true (renV_lt H.length 1 v (by rw [hvl]; trivial) (solid_ne hsol))
  refine cal_fn 63 mixed Try.func21 Try.ntmps21 Try.results21 rfl rfl rfl fun hw cx hx hq => ?_
  repeat (first | (simp only [go_sem, Int.reduceLT, Int.reduceLE, Int.reduceEq, Int.reduceToNat, hsol, e, hT, e2, hL]) | ((with_reducible refine And.intro ?_ ?_); omega) | ((with_reducible refine isSK ?_); first | (refine call_ret (l02Ok h (by omega)) (by simp only [go_sem, Int.reduceLT, Int.reduceLE, Int.reduceEq, Int.reduceToNat, hsol, e, hT, e2, hL]) ?_) | (refine call_ret (l04Plain hl) (by simp only [go_sem, Int.reduceLT, Int.reduceLE, Int.reduceEq, Int.reduceToNat, hsol, e, hT, e2, hL]) ?_)) | ((with_reducible refine isMC ?_); first | (refine mcall_ret (l02Ok h (by omega)) (by simp only [go_sem, Int.reduceLT, Int.reduceLE, Int.reduceEq, Int.reduceToNat, hsol, e, hT, e2, hL]) (by simp only [go_sem, Int.reduceLT, Int.reduceLE, Int.reduceEq, Int.reduceToNat, hsol, e, hT, e2, hL]) ?_) | (refine mcall_ret (l04Plain hl) (by simp only [go_sem, Int.reduceLT, Int.reduceLE, Int.reduceEq, Int.reduceToNat, hsol, e, hT, e2, hL]) (by simp only [go_sem, Int.reduceLT, Int.reduceLE, Int.reduceEq, Int.reduceToNat, hsol, e, hT, e2, hL]) ?_)) | ((with_reducible refine isWKr (id := 9) ?_); refine WK_drawUp 9 [[],[],[0,1],[0,1,2],[0,1,2,3],[],[],[5,6],[5,6,7],[5,6,7,8],[0,1,2,3,4,5,6,7,8,9],[0,1,2,3,4,5,6,7,8,9,10],[0,1,2,3,4,5,6,7,8,9,10,11],[0,1,2,3,4,5,6,7,8,9,10,11,12],[0,1,2,3,4,5,6,7,8,9,10,11,12],[0,1,2,3,4,5,6,7,8,9,10,11,12,13,14],[0,1,2,3,4,5,6,7,8,9,10,11,12,13,14,15],[0,1,2,3,4,5,6,7,8,9,10,11,12,13,14,15,16],[0,1,2,3,4,5,6,7,8,9,10,11,12],[0,1,2,3,4,5,6,7,8,9,10,11,12,18],[0,1,2,3,4,5,6,7,8,9,10,11,12,18,19],[0,1,2,3,4,5,6,7,8,9,10,11,12,13,14,15,16,17,18,19,20],[0,1,2,3,4,5,6,7,8,9,10,11,12,13,14,15,16,17,18,19,20,21],[0,1,2,3,4,5,6,7,8,9,10,11,12,13,14,15,16,17,18,19,20,21,22]] 21 (by kernel_rfl) ?_; dsimp only [List.take, List.drop]) | ((with_reducible refine isWKr (id := 11) ?_); refine WK_drawUp 11 [[],[],[],[1,2],[1,2,3],[1,2,3,4],[],[],[6,7],[6,7,8],[6,7,8,9],[0,1,2,3,4,5,6,7,8,9,10],[0,1,2,3,4,5,6,7,8,9,10,11]] 11 (by kernel_rfl) ?_; dsimp only [List.take, List.drop]) | ((with_reducible refine And.intro ?_ ?_); first | (with_reducible rfl) | assumption | (simp only [go_sem]; done)))
  refine WK_for (fun t : Nat => ⟨[v, w, .any, .any, .any, .any, .s H.length 0 l.length (.u 0), .v (.int .i64 t)] ++ junk 57, H ++ [⟨(tpL (plainL l.length) (Q.take t)).flatMap i64C, 2, .own 1⟩]⟩) (fun t => t ≤ Q.length ∧ ∀ j (hj : j < Q.length), j < t → validT l.length Q[j] = true) (fun t => Q.length - t) 0 (Weak.slots ?_) ?_ fun t ht => ?_
  · simp [go_sem]
  · simp
  have hval : ∀ f ∈ Q.take t, validT l.length f = true := fun f hf => by
    obtain ⟨j, hj, rfl⟩ := List.mem_iff_getElem.1 hf
    rw [List.getElem_take]; simp at hj; exact ht.2 j (by omega) (by omega)
  have htl : (tpL (plainL l.length) (Q.take t)).length = l.length := by
    rw [tpL_len _ _ (by rw [plainL_len]; exact hval), plainL_len]
  rcases Int.lt_or_le (t : Int) Q.length with hc | hc
  · have hj : t < Q.length := by omega
    obtain ⟨i2, off2, c2, b2, rfl, hat2, hfit2⟩ := hw2.full (by omega)
    have hlt2 := hat2.lt
    have ae := hat2.el hz2 hj
    have hfit0 := hat2.fits (rowL .i64 2) 2 hz2 hj (by omega)
    have c0 : cel b2.cells (off2 + t * 2 + 0) = .v (.int .i64 (Q[t] 0)) := ae.cel (by omega)
    have c1 : cel b2.cells (off2 + t * 2 + 1) = .v (.int .i64 (Q[t] 1)) := ae.cel (by omega)
    simp only [Nat.add_zero] at c0
    rw [Nat.add_assoc] at c1
    have g2 : ∀ L : List Blk, (H ++ L)[i2]? = some b2 := fun L => get_app hat2.get
    by_cases hv : validT l.length Q[t] = true
    · have hv2 := validT_iff.1 hv
      have hs := tpL_take (plainL l.length) hj
      obtain ⟨p, hp⟩ : ∃ p : Nat, Q[t] 0 = p := ⟨(Q[t] 0).toNat, by omega⟩
      obtain ⟨q, hq2⟩ : ∃ q : Nat, Q[t] 1 = q := ⟨(Q[t] 1).toNat, by omega⟩
      rw [hp, hq2] at hs
      rw [hp] at c0
      rw [hq2] at c1
      simp only [Int.toNat_natCast] at hs
      have hpq : p ≤ q := by omega
      have hqn : q < l.length := by omega
      have h1 : (decide (0 ≤ (p : Int)) && decide ((p : Int) ≤ (q : Int))) = true := by simp; omega
      have h2 : (decide (0 ≤ (q : Int)) && decide ((q : Int) ≤ (l.length : Int) - 1)) = true := by simp; omega
      repeat (first | (simp only [go_sem, Int.reduceLT, Int.reduceLE, Int.reduceEq, Int.reduceToNat, hT, hL, hc, g2, hat2.live, c0, c1, hlt2, hfit0, h1, h2]) | ((with_reducible refine And.intro ?_ ?_); omega) | ((with_reducible refine isSK ?_); first | (refine call_ret (l00In) (by simp only [go_sem, Int.reduceLT, Int.reduceLE, Int.reduceEq, Int.reduceToNat, hT, hL, hc, g2, hat2.live, c0, c1, hlt2, hfit0, h1, h2]) ?_) | (refine call_ret (l04T (l := tpL (plainL l.length) (Q.take t)) (by first | exact (Go.Sx.get_at0 _ _).trans rfl | exact (Go.Sx.get_at _ _ 1).trans rfl | exact (Go.Sx.get_at _ _ 2).trans rfl | exact (Go.Sx.get_at _ _ 3).trans rfl | exact (Go.Sx.get_at _ _ 4).trans rfl | exact (Go.Sx.get_at _ _ 5).trans rfl | exact (Go.Sx.get_at _ _ 6).trans rfl | exact (Go.Sx.get_at _ _ 7).trans rfl | exact (Go.Sx.get_at _ _ 8).trans rfl | exact (Go.Sx.get_at _ _ 9).trans rfl | exact (Go.Sx.get_at _ _ 10).trans rfl | exact (Go.Sx.get_at _ _ 11).trans rfl) hpq (by omega) (by omega) htl.symm) (by simp only [go_sem, Int.reduceLT, Int.reduceLE, Int.reduceEq, Int.reduceToNat, hT, hL, hc, g2, hat2.live, c0, c1, hlt2, hfit0, h1, h2]) ?_)) | ((with_reducible refine isMC ?_); first | (refine mcall_ret (l00In) (by simp only [go_sem, Int.reduceLT, Int.reduceLE, Int.reduceEq, Int.reduceToNat, hT, hL, hc, g2, hat2.live, c0, c1, hlt2, hfit0, h1, h2]) (by simp only [go_sem, Int.reduceLT, Int.reduceLE, Int.reduceEq, Int.reduceToNat, hT, hL, hc, g2, hat2.live, c0, c1, hlt2, hfit0, h1, h2]) ?_) | (refine mcall_ret (l04T (l := tpL (plainL l.length) (Q.take t)) (by first | exact (Go.Sx.get_at0 _ _).trans rfl | exact (Go.Sx.get_at _ _ 1).trans rfl | exact (Go.Sx.get_at _ _ 2).trans rfl | exact (Go.Sx.get_at _ _ 3).trans rfl | exact (Go.Sx.get_at _ _ 4).trans rfl | exact (Go.Sx.get_at _ _ 5).trans rfl | exact (Go.Sx.get_at _ _ 6).trans rfl | exact (Go.Sx.get_at _ _ 7).trans rfl | exact (Go.Sx.get_at _ _ 8).trans rfl | exact (Go.Sx.get_at _ _ 9).trans rfl | exact (Go.Sx.get_at _ _ 10).trans rfl | exact (Go.Sx.get_at _ _ 11).trans rfl) hpq (by omega) (by omega) htl.symm) (by simp only [go_sem, Int.reduceLT, Int.reduceLE, Int.reduceEq, Int.reduceToNat, hT, hL, hc, g2, hat2.live, c0, c1, hlt2, hfit0, h1, h2]) (by simp only [go_sem, Int.reduceLT, Int.reduceLE, Int.reduceEq, Int.reduceToNat, hT, hL, hc, g2, hat2.live, c0, c1, hlt2, hfit0, h1, h2]) ?_)) | ((with_reducible refine isWKr (id := 9) ?_); refine WK_drawUp 9 [[],[],[0,1],[0,1,2],[0,1,2,3],[],[],[5,6],[5,6,7],[5,6,7,8],[0,1,2,3,4,5,6,7,8,9],[0,1,2,3,4,5,6,7,8,9,10],[0,1,2,3,4,5,6,7,8,9,10,11],[0,1,2,3,4,5,6,7,8,9,10,11,12],[0,1,2,3,4,5,6,7,8,9,10,11,12],[0,1,2,3,4,5,6,7,8,9,10,11,12,13,14],[0,1,2,3,4,5,6,7,8,9,10,11,12,13,14,15],[0,1,2,3,4,5,6,7,8,9,10,11,12,13,14,15,16],[0,1,2,3,4,5,6,7,8,9,10,11,12],[0,1,2,3,4,5,6,7,8,9,10,11,12,18],[0,1,2,3,4,5,6,7,8,9,10,11,12,18,19],[0,1,2,3,4,5,6,7,8,9,10,11,12,13,14,15,16,17,18,19,20],[0,1,2,3,4,5,6,7,8,9,10,11,12,13,14,15,16,17,18,19,20,21],[0,1,2,3,4,5,6,7,8,9,10,11,12,13,14,15,16,17,18,19,20,21,22]] 21 (by kernel_rfl) ?_; dsimp only [List.take, List.drop]) | ((with_reducible refine isWKr (id := 11) ?_); refine WK_drawUp 11 [[],[],[],[1,2],[1,2,3],[1,2,3,4],[],[],[6,7],[6,7,8],[6,7,8,9],[0,1,2,3,4,5,6,7,8,9,10],[0,1,2,3,4,5,6,7,8,9,10,11]] 11 (by kernel_rfl) ?_; dsimp only [List.take, List.drop]) | ((with_reducible refine And.intro ?_ ?_); first | (with_reducible rfl) | assumption | (simp only [go_sem]; done)))
      refine EK_again (t + 1) ?_ ⟨by omega, fun j hj2 hj3 => ?_⟩ (by omega)
      · rw [hs]
        exact Weak.only 1 rfl (by simp [hx]) (by simp [go_sem, flat_i64.lts]) hw (by simp [go_sem, hvr, hlt2] <;> omega)
      · by_cases e3 : j = t
        · subst e3; exact hv
        · exact ht.2 j hj2 (by omega)
    · exact absurd (hv0 _ (List.getElem_mem hj)) hv
  · have : t = Q.length := by omega
    subst this
    rw [List.take_length] at htl ⊢
    have hio := inO_tpL l Q
    have htl2 := tpL_len l Q hv0
    have hlen2 := inO_len l (tpL (plainL l.length) Q)
    repeat (first | (simp only [go_sem, Int.reduceLT, Int.reduceLE, Int.reduceEq, Int.reduceToNat, hsol, hT, Int.not_lt.2 hc]) | ((with_reducible refine And.intro ?_ ?_); omega) | ((with_reducible refine isSK ?_); first | (refine call_ret (l04Pages (l := l) (o := tpL (plainL l.length) Q) h.app (Rd.own0 rfl rfl (by omega)) (plain_ok l Q) (by omega)) (by simp only [go_sem, Int.reduceLT, Int.reduceLE, Int.reduceEq, Int.reduceToNat, hsol, hT, Int.not_lt.2 hc]) ?_)) | ((with_reducible refine isMC ?_); first | (refine mcall_ret (l04Pages (l := l) (o := tpL (plainL l.length) Q) h.app (Rd.own0 rfl rfl (by omega)) (plain_ok l Q) (by omega)) (by simp only [go_sem, Int.reduceLT, Int.reduceLE, Int.reduceEq, Int.reduceToNat, hsol, hT, Int.not_lt.2 hc]) (by simp only [go_sem, Int.reduceLT, Int.reduceLE, Int.reduceEq, Int.reduceToNat, hsol, hT, Int.not_lt.2 hc]) ?_)) | ((with_reducible refine isWKr (id := 9) ?_); refine WK_drawUp 9 [[],[],[0,1],[0,1,2],[0,1,2,3],[],[],[5,6],[5,6,7],[5,6,7,8],[0,1,2,3,4,5,6,7,8,9],[0,1,2,3,4,5,6,7,8,9,10],[0,1,2,3,4,5,6,7,8,9,10,11],[0,1,2,3,4,5,6,7,8,9,10,11,12],[0,1,2,3,4,5,6,7,8,9,10,11,12],[0,1,2,3,4,5,6,7,8,9,10,11,12,13,14],[0,1,2,3,4,5,6,7,8,9,10,11,12,13,14,15],[0,1,2,3,4,5,6,7,8,9,10,11,12,13,14,15,16],[0,1,2,3,4,5,6,7,8,9,10,11,12],[0,1,2,3,4,5,6,7,8,9,10,11,12,18],[0,1,2,3,4,5,6,7,8,9,10,11,12,18,19],[0,1,2,3,4,5,6,7,8,9,10,11,12,13,14,15,16,17,18,19,20],[0,1,2,3,4,5,6,7,8,9,10,11,12,13,14,15,16,17,18,19,20,21],[0,1,2,3,4,5,6,7,8,9,10,11,12,13,14,15,16,17,18,19,20,21,22]] 21 (by kernel_rfl) ?_; dsimp only [List.take, List.drop]) | ((with_reducible refine isWKr (id := 11) ?_); refine WK_drawUp 11 [[],[],[],[1,2],[1,2,3],[1,2,3,4],[],[],[6,7],[6,7,8],[6,7,8,9],[0,1,2,3,4,5,6,7,8,9,10],[0,1,2,3,4,5,6,7,8,9,10,11]] 11 (by kernel_rfl) ?_; dsimp only [List.take, List.drop]) | ((with_reducible refine And.intro ?_ ?_); first | (with_reducible rfl) | assumption | (simp only [go_sem]; done)))
    refine ret_one hq hw _ (.inl rfl) 1 rfl (of_eq_true ((flat_rowL .u16 12).lts _ _)) (.t [.s H.length 0 l.length (.u 0), .v (.int .i64 0)]) (by simp [go_sem]) ?_
    simp [go_sem, conc, concs, upσ, Cap.val, hlen2, htl, htl2, hio]

theorem specTurnPages_okF {H : List Blk} {v w : V} {l Q : List (Nat → Int)} (h : Rd H v (rowL .u16 12) l) (hw2 : Rd H w (rowL .i64 2) Q) (hl : l.length ≤ 1000000) (e : okB l = true) (hT1 : Q.length ≤ 200) (hv0 : ∀ f ∈ Q, validT l.length f = true) :
    Cal Try.prog 21 [v, w] H fun u H' => u = .t [.s H.length 0 (tpL l Q).length (.u 0), .v (.int .i64 0)] ∧ H' = H ++ [⟨(tpL l Q).flatMap (rowL .u16 12), 64, .own 12⟩] := by
  rw [tpL_len l Q hv0]; exact specTurnPages_ok h hw2 hl e hT1 hv0

end Go.Proofs.Ytjkkallcgplgmaa

