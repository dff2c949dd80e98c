/- Contracts of functions of the translated program, by the walk. -/
import Derived.Test.YtjkkallcgplgmaaF6
set_option linter.unusedVariables false
set_option linter.unusedSimpArgs false
set_option maxRecDepth 8000
set_option maxHeartbeats 4000000
namespace Go.Proofs.Ytjkkallcgplgmaa
open Go Go.Sx
theorem implTurnsFor_all {H : List Blk} {v w : V} {l : List (Nat → Int)} {o : List Int} (h : Rd H v (rowL .u16 12) l) (h2 : Rd H w i64C o) (hl : l.length ≤ 1000000) (hlo : o.length ≤ 1000000) (hc : orC l o = 0) :
    Cal Try.prog 53 [v, w] H fun u H' => u = .t [.s H.length 0 (tfO o).length (.u 0), .v (.int .i64 0)] ∧ H' = H ++ [⟨(tfO o).flatMap (rowL .i64 2), 69, .own 2⟩] := by
  by_cases hne : o = []
  · subst hne
    exact implTurnsFor_nil h h2 hl hc
  · exact implTurnsFor_ok h h2 hl hlo hc hne
theorem specTurnsFor_ok {H : List Blk} {v w : V} {l : List (Nat → Int)} {o : List Int} (h : Rd H v (rowL .u16 12) l) (h2 : Rd H w i64C o) (hk : KC w) (hl : l.length ≤ 1000000) (hlo : o.length ≤ 1000000) (hc : orC l o = 0) :
    Cal Try.prog 52 [v, w] H fun u H' => u = .t [.s H.length 0 (tfO o).length (.u 0), .v (.int .i64 0)] ∧ H' = H ++ [⟨(tfO o).flatMap (rowL .i64 2), 69, .own 2⟩] := by
  have hsol := h.solid
  have hsol2 := h2.solid
  have hL := h2.lenV (P := Try.prog) slTy41
  have hLb := h.lenV (P := Try.prog) slTy27
  have hOrd := (orC_ok hc).2
  have ho : OrdP o o.length := by rw [hOrd.1]; exact hOrd
  have hlen : o.length = l.length := hOrd.1
  have hvl : V.lt H.length v = True := h.vlt (Nat.le_refl _)
  have hwl : V.lt H.length w = True := h2.vlt (Nat.le_refl _)
  have hvl2 : V.lt (H.length + 2) v = True := h.vlt (by omega)
  have hwl2 : V.lt (H.length + 2) w = True := h2.vlt (by omega)
  have hvr : renW H.length [0, 3] v v = True := eq_true (renW_lt H.length _ v (by rw [hvl]; trivial) (solid_ne hsol))
  refine cal_fn 52 mixed Try.func52 Try.ntmps52 Try.results52 rfl rfl rfl fun hw cx hx hq => ?_
  repeat (first | (simp only [go_sem, Int.reduceLT, Int.reduceLE, Int.reduceEq, Int.reduceToNat, hsol, hsol2, hc, hL, hLb]) | ((with_reducible refine And.intro ?_ ?_); omega) | ((with_reducible refine isSK ?_); first | (refine call_ret (l04Ordered h h2 hk hl hlo) (by simp only [go_sem, Int.reduceLT, Int.reduceLE, Int.reduceEq, Int.reduceToNat, hsol, hsol2, hc, hL, hLb]) ?_) | (refine call_ret (l04Plain (n := l.length) hl) (by simp only [go_sem, Int.reduceLT, Int.reduceLE, Int.reduceEq, Int.reduceToNat, hsol, hsol2, hc, hL, hLb]) ?_)) | ((with_reducible refine isMC ?_); first | (refine mcall_ret (l04Ordered h h2 hk hl hlo) (by simp only [go_sem, Int.reduceLT, Int.reduceLE, Int.reduceEq, Int.reduceToNat, hsol, hsol2, hc, hL, hLb]) (by simp only [go_sem, Int.reduceLT, Int.reduceLE, Int.reduceEq, Int.reduceToNat, hsol, hsol2, hc, hL, hLb]) ?_) | (refine mcall_ret (l04Plain (n := l.length) hl) (by simp only [go_sem, Int.reduceLT, Int.reduceLE, Int.reduceEq, Int.reduceToNat, hsol, hsol2, hc, hL, hLb]) (by simp only [go_sem, Int.reduceLT, Int.reduceLE, Int.reduceEq, Int.reduceToNat, hsol, hsol2, hc, hL, hLb]) ?_)) | ((with_reducible refine isWKr (id := 10) ?_); refine WK_drawAt 10 [[],[],[0,1],[0,1,2],[],[],[4,5],[4,5,6],[0,1,2,3,4,5,6,7]] (by kernel_rfl) ?_) | ((with_reducible refine And.intro ?_ ?_); first | (with_reducible rfl) | assumption | (simp only [go_sem]; done)))
  refine WK_for (fun j : Nat => ⟨[v, w, .any, .any, .any, .any, .any, .s H.length 0 (tfN o j).2.length (.u 0), .s (H.length + 1) 0 o.length (.u 0), .v (.int .i64 j)] ++ junk 44, H ++ [⟨(tfN o j).2.flatMap (rowL .i64 2), 69, .own 2⟩, ⟨(tfN o j).1.flatMap i64C, 2, .own 1⟩]⟩) (fun j => j ≤ o.length) (fun j => o.length - j) 0 ?_ ?_ fun j hj => ?_
  · have e0 : (tfN o 0).1 = plainL l.length := by rw [← hlen]; rfl
    rw [e0]
    exact Weak.slots (by simp [go_sem, tfN, hlen])
  · simp
  have hinv := tf_inv ho j hj
  have hnl := hinv.1
  have hol := hinv.2.2.2
  rcases Int.lt_or_le (j : Int) o.length with hcj | hcj
  · have hjo : j < o.length := by omega
    obtain ⟨i2, off2, c2, b2, rfl, hat2, hfit2⟩ := h2.full (by omega)
    have hcel := hat2.i64 hjo
    have hfit := hat2.fits i64C 1 (fun _ => rfl) hjo (by omega)
    have hlt2 := hat2.lt
    have g2 : ∀ L : List Blk, (H ++ L)[i2]? = some b2 := fun L => get_app hat2.get
    obtain ⟨k, hjk, hko, hidx, hgk, hlow, hinv2, heq⟩ := tf_step ho hjo hinv
    have hnth := nth0_at hjo
    rw [hnth] at hidx hgk heq
    have hN : tfN o (j + 1) = if k = j then tfN o j else (turnL (tfN o j).1 j k, (tfN o j).2 ++ [pairF j k]) := by
      rw [← heq, ← hnth]; rfl
    have hfl : ((tfN o j).1.flatMap i64C).length = o.length := by rw [flat_i64.flen, Nat.mul_one, hnl]
    repeat (first | (simp only [go_sem, Int.reduceLT, Int.reduceLE, Int.reduceEq, Int.reduceToNat, hcj, hL, g2, hat2.live, hcel, hfit, hlt2]) | ((with_reducible refine And.intro ?_ ?_); omega) | ((with_reducible refine isWKr (id := 10) ?_); refine WK_drawAt 10 [[],[],[0,1],[0,1,2],[],[],[4,5],[4,5,6],[0,1,2,3,4,5,6,7]] (by kernel_rfl) ?_) | ((with_reducible refine And.intro ?_ ?_); first | (with_reducible rfl) | assumption | (simp only [go_sem]; done)))
    refine WK_for (fun q : Nat => ⟨[v, .s i2 off2 o.length c2, .any, .any, .any, .any, .any, .s H.length 0 (tfN o j).2.length (.u 0), .s (H.length + 1) 0 o.length (.u 0), .v (.int .i64 j), .v (.int .i64 q)] ++ junk 43, H ++ [⟨(tfN o j).2.flatMap (rowL .i64 2), 69, .own 2⟩, ⟨(tfN o j).1.flatMap i64C, 2, .own 1⟩]⟩) (fun q => j ≤ q ∧ q ≤ k) (fun q => k - q) j (Weak.slots ?_) ?_ fun q hqk => ?_
    · simp [go_sem]
    · exact ⟨Nat.le_refl _, hjk⟩
    have hqo : q < (tfN o j).1.length := by omega
    have hcq := (At.mk0 (H := []) (L := []) (cs := (tfN o j).1.flatMap i64C) (t := 0) (k := .own 1) rfl).i64 hqo
    simp only [Nat.zero_add] at hcq
    rcases Nat.lt_or_ge q k with hq2 | hq2
    · have hne : ((tfN o j).1[q] = o[j]) = False := eq_false fun e => hlow q hq2 (by rw [List.getElem?_eq_getElem hqo, e, hnth])
      repeat (first | (simp only [go_sem, Int.reduceLT, Int.reduceLE, Int.reduceEq, Int.reduceToNat, g2, hat2.live, hcel, hfit, hlt2, hcq, hfl, hne]) | ((with_reducible refine And.intro ?_ ?_); omega) | ((with_reducible refine isWKr (id := 10) ?_); refine WK_drawAt 10 [[],[],[0,1],[0,1,2],[],[],[4,5],[4,5,6],[0,1,2,3,4,5,6,7]] (by kernel_rfl) ?_) | ((with_reducible refine And.intro ?_ ?_); first | (with_reducible rfl) | assumption | (simp only [go_sem]; done)))
      refine EK_again (q + 1) (Weak.slots (by simp [go_sem])) (by omega) (by omega)
    · have hqe : q = k := by omega
      subst hqe
      have heq2 : ((tfN o j).1[q] = o[j]) = True := eq_true (by rw [List.getElem?_eq_getElem hqo] at hgk; exact Option.some.inj hgk)
      by_cases e : q = j
      · rw [if_pos e] at hN
        have e1 : ((j : Int) < (q : Int)) = False := eq_false (by omega)
        repeat (first | (simp only [go_sem, Int.reduceLT, Int.reduceLE, Int.reduceEq, Int.reduceToNat, g2, hat2.live, hcel, hfit, hlt2, hcq, hfl, heq2, e1]) | ((with_reducible refine And.intro ?_ ?_); omega) | ((with_reducible refine isWKr (id := 10) ?_); refine WK_drawAt 10 [[],[],[0,1],[0,1,2],[],[],[4,5],[4,5,6],[0,1,2,3,4,5,6,7]] (by kernel_rfl) ?_) | ((with_reducible refine And.intro ?_ ?_); first | (with_reducible rfl) | assumption | (simp only [go_sem]; done)))
        refine EK_again (j + 1) ?_ (by omega) (by omega)
        rw [hN]
        exact Weak.slots (by simp [go_sem])
      · rw [if_neg e] at hN
        have e1 : ((j : Int) < (q : Int)) = True := eq_true (by omega)
        have hn1 : norefH H.length H := norefH_wf hw (Nat.le_refl _)
        have hfv := h.forget (n := H.length) (Nat.le_refl _)
        have hd1 : (H.length + 1 = H.length) = False := eq_false (by omega)
        have hd3 : (i2 = H.length) = False := eq_false (by omega)
        have hn2 : norefs H.length ((tfN o j).1.flatMap i64C) = true := flat_i64.norefs _ _
        have hn3 : norefs H.length ((tfN o j).2.flatMap (rowL .i64 2)) = true := (flat_rowL .i64 2).norefs _ _
        have hfl2 : ((tfN o j).2.flatMap (rowL .i64 2)).length = (tfN o j).2.length * 2 := (flat_rowL .i64 2).flen _
        repeat (first | (simp only [go_sem, Int.reduceLT, Int.reduceLE, Int.reduceEq, Int.reduceToNat, g2, hat2.live, hcel, hfit, hlt2, hcq, hfl, heq2, e1, hn1, hfv, hd1, hd3, hn2, hn3, hfl2, hx]) | ((with_reducible refine And.intro ?_ ?_); omega) | ((with_reducible refine isSK ?_); first | (refine call_ret (l04T (l := (tfN o j).1) (by first | exact (Go.Sx.get_at0 _ _).trans rfl | exact (Go.Sx.get_at _ _ 1).trans rfl | exact (Go.Sx.get_at _ _ 2).trans rfl | exact (Go.Sx.get_at _ _ 3).trans rfl | exact (Go.Sx.get_at _ _ 4).trans rfl | exact (Go.Sx.get_at _ _ 5).trans rfl | exact (Go.Sx.get_at _ _ 6).trans rfl | exact (Go.Sx.get_at _ _ 7).trans rfl | exact (Go.Sx.get_at _ _ 8).trans rfl | exact (Go.Sx.get_at _ _ 9).trans rfl | exact (Go.Sx.get_at _ _ 10).trans rfl | exact (Go.Sx.get_at _ _ 11).trans rfl) hjk (by omega) (by omega) hnl.symm) (by simp only [go_sem, Int.reduceLT, Int.reduceLE, Int.reduceEq, Int.reduceToNat, g2, hat2.live, hcel, hfit, hlt2, hcq, hfl, heq2, e1, hn1, hfv, hd1, hd3, hn2, hn3, hfl2, hx]) ?_)) | ((with_reducible refine isMC ?_); first | (refine mcall_ret (l04T (l := (tfN o j).1) (by first | exact (Go.Sx.get_at0 _ _).trans rfl | exact (Go.Sx.get_at _ _ 1).trans rfl | exact (Go.Sx.get_at _ _ 2).trans rfl | exact (Go.Sx.get_at _ _ 3).trans rfl | exact (Go.Sx.get_at _ _ 4).trans rfl | exact (Go.Sx.get_at _ _ 5).trans rfl | exact (Go.Sx.get_at _ _ 6).trans rfl | exact (Go.Sx.get_at _ _ 7).trans rfl | exact (Go.Sx.get_at _ _ 8).trans rfl | exact (Go.Sx.get_at _ _ 9).trans rfl | exact (Go.Sx.get_at _ _ 10).trans rfl | exact (Go.Sx.get_at _ _ 11).trans rfl) hjk (by omega) (by omega) hnl.symm) (by simp only [go_sem, Int.reduceLT, Int.reduceLE, Int.reduceEq, Int.reduceToNat, g2, hat2.live, hcel, hfit, hlt2, hcq, hfl, heq2, e1, hn1, hfv, hd1, hd3, hn2, hn3, hfl2, hx]) (by simp only [go_sem, Int.reduceLT, Int.reduceLE, Int.reduceEq, Int.reduceToNat, g2, hat2.live, hcel, hfit, hlt2, hcq, hfl, heq2, e1, hn1, hfv, hd1, hd3, hn2, hn3, hfl2, hx]) ?_)) | ((with_reducible refine isWKr (id := 10) ?_); refine WK_drawAt 10 [[],[],[0,1],[0,1,2],[],[],[4,5],[4,5,6],[0,1,2,3,4,5,6,7]] (by kernel_rfl) ?_) | ((with_reducible refine And.intro ?_ ?_); first | (with_reducible rfl) | assumption | (simp only [go_sem]; done)))
        refine EK_again (j + 1) ?_ (by omega) (by omega)
        rw [hN, flat_snoc, ← pairF_row]
        exact Weak.pick [0,3] rfl (by decide) (by simp [hx]) (by simp [go_sem, flat_i64.lts, (flat_rowL .i64 2).lts]) hw (by simp [go_sem, hvr, hlt2] <;> omega)
  · have : j = o.length := by omega
    subst this
    repeat (first | (simp only [go_sem, Int.reduceLT, Int.reduceLE, Int.reduceEq, Int.reduceToNat, Int.not_lt.2 hcj, hL]) | ((with_reducible refine And.intro ?_ ?_); omega) | ((with_reducible refine isWKr (id := 10) ?_); refine WK_drawAt 10 [[],[],[0,1],[0,1,2],[],[],[4,5],[4,5,6],[0,1,2,3,4,5,6,7]] (by kernel_rfl) ?_) | ((with_reducible refine And.intro ?_ ?_); first | (with_reducible rfl) | assumption | (simp only [go_sem]; done)))
    refine ret_one hq hw _ (.inl rfl) 0 rfl (of_eq_true ((flat_rowL .i64 2).lts _ _)) (.t [.s H.length 0 (tfO o).length (.u 0), .v (.int .i64 0)]) (by simp [go_sem]) ?_
    simp [go_sem, conc, concs, upσ, Cap.val, tfO]
end Go.Proofs.Ytjkkallcgplgmaa

