/- Contracts of functions of the translated program, by the walk. -/
import Derived.Test.YtjkkallcgplgmaaF5
set_option linter.unusedVariables false
set_option linter.unusedSimpArgs false
set_option maxRecDepth 8000
set_option maxHeartbeats 4000000
namespace Go.Proofs.Ytjkkallcgplgmaa
open Go Go.Sx
theorem implTurnsFor_nil {H : List Blk} {v w : V} {l : List (Nat → Int)} (h : Rd H v (rowL .u16 12) l) (h2 : Rd H w i64C []) (hl : l.length ≤ 1000000) (hc : orC l [] = 0) :
    Cal Try.prog 53 [v, w] H fun u H' => u = .t [.s H.length 0 0 (.u 0), .v (.int .i64 0)] ∧ H' = H ++ [⟨[], 69, .own 2⟩] := by
  have hsol := h.solid
  have hsol2 := h2.solid
  have hL := h2.lenV (P := Try.prog) slTy41
  have hvl : V.lt H.length w = True := h2.vlt (Nat.le_refl _)
  have hcl : cellsL w = [w] := by
    rcases h2 with ⟨rfl, _⟩ | ⟨i, off, c, b, rfl, _⟩ <;> rfl
  refine cal_fn 47 mixed Try.func53 Try.ntmps53 Try.results53 rfl rfl rfl fun hw cx hx hq => ?_
  repeat (first | (simp only [go_sem, Int.reduceLT, Int.reduceLE, Int.reduceEq, Int.reduceToNat, hsol, hsol2, hc, hL, hcl]) | ((with_reducible refine And.intro ?_ ?_); omega) | ((with_reducible refine isSK ?_); first | (refine call_ret (checkOrder h h2 hl (by simp)) (by simp only [go_sem, Int.reduceLT, Int.reduceLE, Int.reduceEq, Int.reduceToNat, hsol, hsol2, hc, hL, hcl]) ?_) | (refine call_ret (valuesC hsol2) (by simp only [go_sem, Int.reduceLT, Int.reduceLE, Int.reduceEq, Int.reduceToNat, hsol, hsol2, hc, hL, hcl]) ?_) | (refine call_ret (sortedNil (h2.app) (by first | exact (Go.Sx.get_at0 _ _).trans rfl | exact (Go.Sx.get_at _ _ 1).trans rfl | exact (Go.Sx.get_at _ _ 2).trans rfl | exact (Go.Sx.get_at _ _ 3).trans rfl | exact (Go.Sx.get_at _ _ 4).trans rfl | exact (Go.Sx.get_at _ _ 5).trans rfl | exact (Go.Sx.get_at _ _ 6).trans rfl | exact (Go.Sx.get_at _ _ 7).trans rfl | exact (Go.Sx.get_at _ _ 8).trans rfl | exact (Go.Sx.get_at _ _ 9).trans rfl | exact (Go.Sx.get_at _ _ 10).trans rfl | exact (Go.Sx.get_at _ _ 11).trans rfl)) (by simp only [go_sem, Int.reduceLT, Int.reduceLE, Int.reduceEq, Int.reduceToNat, hsol, hsol2, hc, hL, hcl]) ?_)) | ((with_reducible refine isMC ?_); first | (refine mcall_ret (checkOrder h h2 hl (by simp)) (by simp only [go_sem, Int.reduceLT, Int.reduceLE, Int.reduceEq, Int.reduceToNat, hsol, hsol2, hc, hL, hcl]) (by simp only [go_sem, Int.reduceLT, Int.reduceLE, Int.reduceEq, Int.reduceToNat, hsol, hsol2, hc, hL, hcl]) ?_) | (refine mcall_ret (valuesC hsol2) (by simp only [go_sem, Int.reduceLT, Int.reduceLE, Int.reduceEq, Int.reduceToNat, hsol, hsol2, hc, hL, hcl]) (by simp only [go_sem, Int.reduceLT, Int.reduceLE, Int.reduceEq, Int.reduceToNat, hsol, hsol2, hc, hL, hcl]) ?_) | (refine mcall_ret (sortedNil (h2.app) (by first | exact (Go.Sx.get_at0 _ _).trans rfl | exact (Go.Sx.get_at _ _ 1).trans rfl | exact (Go.Sx.get_at _ _ 2).trans rfl | exact (Go.Sx.get_at _ _ 3).trans rfl | exact (Go.Sx.get_at _ _ 4).trans rfl | exact (Go.Sx.get_at _ _ 5).trans rfl | exact (Go.Sx.get_at _ _ 6).trans rfl | exact (Go.Sx.get_at _ _ 7).trans rfl | exact (Go.Sx.get_at _ _ 8).trans rfl | exact (Go.Sx.get_at _ _ 9).trans rfl | exact (Go.Sx.get_at _ _ 10).trans rfl | exact (Go.Sx.get_at _ _ 11).trans rfl)) (by simp only [go_sem, Int.reduceLT, Int.reduceLE, Int.reduceEq, Int.reduceToNat, hsol, hsol2, hc, hL, hcl]) (by simp only [go_sem, Int.reduceLT, Int.reduceLE, Int.reduceEq, Int.reduceToNat, hsol, hsol2, hc, hL, hcl]) ?_)) | ((with_reducible refine And.intro ?_ ?_); first | (with_reducible rfl) | assumption | (simp only [go_sem]; done)))
  refine WK_for (fun j : Nat => ⟨[v, w, .any, .any, .any, .any, .any, .v (.slice none 0 0), .s (H.length + 1) 0 0 (.u 0), .any, .any, .any, .any, .any, .any, .any, .any, .any, .any, .any, .any, .any, w, .v (.int .i64 (0 : Nat)), .v (.int .i64 j)] ++ junk 24, H ++ [⟨[w], 41, .fix⟩, ⟨[], 69, .own 2⟩]⟩) (fun j => j = 0) (fun j => j) 0 (Weak.slots ?_) ?_ fun j hj => ?_
  · simp [go_sem]
  · simp
  have hc3 : ¬ ((j : Int) < ((0 : Nat) : Int)) := by omega
  repeat (first | (simp only [go_sem, Int.reduceLT, Int.reduceLE, Int.reduceEq, Int.reduceToNat, hL, hc3]) | ((with_reducible refine And.intro ?_ ?_); omega) | ((with_reducible refine And.intro ?_ ?_); first | (with_reducible rfl) | assumption | (simp only [go_sem]; done)))
  refine ret_one hq hw _ (.inl rfl) 1 rfl (by simp [go_sem]) (.t [.s H.length 0 0 (.u 0), .v (.int .i64 0)]) (by simp [go_sem]) ?_
  simp [go_sem, conc, concs, upσ, Cap.val]
theorem implTurnsFor_ok {H : List Blk} {v w : V} {l : List (Nat → Int)} {o : List Int} (h : Rd H v (rowL .u16 12) l) (h2 : Rd H w i64C o) (hl : l.length ≤ 1000000) (hlo : o.length ≤ 1000000) (hc : orC l o = 0) (hne : o ≠ []) :
    Cal Try.prog 53 [v, w] H fun u H' => u = .t [.s H.length 0 (tfO o).length (.u 0), .v (.int .i64 0)] ∧ H' = H ++ [⟨(tfO o).flatMap (rowL .i64 2), 69, .own 2⟩] := by
  have hsol := h.solid
  have hsol2 := h2.solid
  have hL := h2.lenV (P := Try.prog) slTy41
  have hvl : V.lt H.length w = True := h2.vlt (Nat.le_refl _)
  have hcl : cellsL w = [w] := by
    rcases h2 with ⟨rfl, _⟩ | ⟨i, off, c, b, rfl, _⟩ <;> rfl
  have hOrd := (orC_ok hc).2
  have ho : OrdP o o.length := by rw [hOrd.1]; exact hOrd
  have hsp : sortL o = plainL o.length := sortL_plain ho
  refine cal_fn 47 mixed Try.func53 Try.ntmps53 Try.results53 rfl rfl rfl fun hw cx hx hq => ?_
  repeat (first | (simp only [go_sem, Int.reduceLT, Int.reduceLE, Int.reduceEq, Int.reduceToNat, hsol, hsol2, hc, hL, hcl, hsp]) | ((with_reducible refine And.intro ?_ ?_); omega) | ((with_reducible refine isSK ?_); first | (refine call_ret (checkOrder h h2 hl hlo) (by simp only [go_sem, Int.reduceLT, Int.reduceLE, Int.reduceEq, Int.reduceToNat, hsol, hsol2, hc, hL, hcl, hsp]) ?_) | (refine call_ret (valuesC hsol2) (by simp only [go_sem, Int.reduceLT, Int.reduceLE, Int.reduceEq, Int.reduceToNat, hsol, hsol2, hc, hL, hcl, hsp]) ?_) | (refine call_ret (sortedC (l := o) (h2.app) hlo (by first | exact (Go.Sx.get_at0 _ _).trans rfl | exact (Go.Sx.get_at _ _ 1).trans rfl | exact (Go.Sx.get_at _ _ 2).trans rfl | exact (Go.Sx.get_at _ _ 3).trans rfl | exact (Go.Sx.get_at _ _ 4).trans rfl | exact (Go.Sx.get_at _ _ 5).trans rfl | exact (Go.Sx.get_at _ _ 6).trans rfl | exact (Go.Sx.get_at _ _ 7).trans rfl | exact (Go.Sx.get_at _ _ 8).trans rfl | exact (Go.Sx.get_at _ _ 9).trans rfl | exact (Go.Sx.get_at _ _ 10).trans rfl | exact (Go.Sx.get_at _ _ 11).trans rfl) hne) (by simp only [go_sem, Int.reduceLT, Int.reduceLE, Int.reduceEq, Int.reduceToNat, hsol, hsol2, hc, hL, hcl, hsp]) ?_)) | ((with_reducible refine isMC ?_); first | (refine mcall_ret (checkOrder h h2 hl hlo) (by simp only [go_sem, Int.reduceLT, Int.reduceLE, Int.reduceEq, Int.reduceToNat, hsol, hsol2, hc, hL, hcl, hsp]) (by simp only [go_sem, Int.reduceLT, Int.reduceLE, Int.reduceEq, Int.reduceToNat, hsol, hsol2, hc, hL, hcl, hsp]) ?_) | (refine mcall_ret (valuesC hsol2) (by simp only [go_sem, Int.reduceLT, Int.reduceLE, Int.reduceEq, Int.reduceToNat, hsol, hsol2, hc, hL, hcl, hsp]) (by simp only [go_sem, Int.reduceLT, Int.reduceLE, Int.reduceEq, Int.reduceToNat, hsol, hsol2, hc, hL, hcl, hsp]) ?_) | (refine mcall_ret (sortedC (l := o) (h2.app) hlo (by first | exact (Go.Sx.get_at0 _ _).trans rfl | exact (Go.Sx.get_at _ _ 1).trans rfl | exact (Go.Sx.get_at _ _ 2).trans rfl | exact (Go.Sx.get_at _ _ 3).trans rfl | exact (Go.Sx.get_at _ _ 4).trans rfl | exact (Go.Sx.get_at _ _ 5).trans rfl | exact (Go.Sx.get_at _ _ 6).trans rfl | exact (Go.Sx.get_at _ _ 7).trans rfl | exact (Go.Sx.get_at _ _ 8).trans rfl | exact (Go.Sx.get_at _ _ 9).trans rfl | exact (Go.Sx.get_at _ _ 10).trans rfl | exact (Go.Sx.get_at _ _ 11).trans rfl) hne) (by simp only [go_sem, Int.reduceLT, Int.reduceLE, Int.reduceEq, Int.reduceToNat, hsol, hsol2, hc, hL, hcl, hsp]) (by simp only [go_sem, Int.reduceLT, Int.reduceLE, Int.reduceEq, Int.reduceToNat, hsol, hsol2, hc, hL, hcl, hsp]) ?_)) | ((with_reducible refine And.intro ?_ ?_); first | (with_reducible rfl) | assumption | (simp only [go_sem]; done)))
  refine WK_for (fun j : Nat => ⟨[v, w, .any, .any, .any, .any, .any, .s (H.length + 1) 0 o.length (.u 0), .s (H.length + 2) 0 (tfN o j).2.length (.u 0), .any, .any, .any, .any, .any, .any, .any, .any, .any, .any, .any, .any, .any, w, .v (.int .i64 o.length), .v (.int .i64 j)] ++ junk 24, H ++ [⟨[w], 41, .fix⟩, ⟨(tfN o j).1.flatMap i64C, 2, .own 1⟩, ⟨(tfN o j).2.flatMap (rowL .i64 2), 69, .own 2⟩]⟩) (fun j => j ≤ o.length) (fun j => o.length - j) 0 (Weak.slots ?_) ?_ fun j hj => ?_
  · simp [go_sem, tfN]
  · simp
  have hinv := tf_inv ho j hj
  have hnl := hinv.1
  have hol := hinv.2.2.2
  rcases Int.lt_or_le (j : Int) o.length with hcj | hcj
  · have hjo : j < o.length := by omega
    obtain ⟨i2, off2, c2, b2, rfl, hat2, hfit2⟩ := h2.full (by omega)
    have hcel := hat2.i64 hjo
    have hfit := hat2.fits i64C 1 (fun _ => rfl) hjo (by omega)
    have hlt2 := hat2.lt
    have g2 : ∀ L : List Blk, (H ++ L)[i2]? = some b2 := fun L => get_app hat2.get
    obtain ⟨k, hjk, hko, hidx, hgk, hlow, hinv2, heq⟩ := tf_step ho hjo hinv
    have hnth := nth0_at hjo
    rw [hnth] at hidx hgk heq
    have hN : tfN o (j + 1) = if k = j then tfN o j else (turnL (tfN o j).1 j k, (tfN o j).2 ++ [pairF j k]) := by
      rw [← heq, ← hnth]; rfl
    by_cases e : k = j
    · rw [if_pos e] at hN
      have e1 : ((k : Int) = (j : Int)) = True := eq_true (by omega)
      repeat (first | (simp only [go_sem, Int.reduceLT, Int.reduceLE, Int.reduceEq, Int.reduceToNat, hcj, g2, hat2.live, hcel, hfit, hlt2, hidx, e1]) | ((with_reducible refine And.intro ?_ ?_); omega) | ((with_reducible refine isSK ?_); first | (refine call_ret (slicesIndex (l := (tfN o j).1) (Rd.own 1 rfl rfl (by omega)) (by omega)) (by simp only [go_sem, Int.reduceLT, Int.reduceLE, Int.reduceEq, Int.reduceToNat, hcj, g2, hat2.live, hcel, hfit, hlt2, hidx, e1]) ?_)) | ((with_reducible refine isMC ?_); first | (refine mcall_ret (slicesIndex (l := (tfN o j).1) (Rd.own 1 rfl rfl (by omega)) (by omega)) (by simp only [go_sem, Int.reduceLT, Int.reduceLE, Int.reduceEq, Int.reduceToNat, hcj, g2, hat2.live, hcel, hfit, hlt2, hidx, e1]) (by simp only [go_sem, Int.reduceLT, Int.reduceLE, Int.reduceEq, Int.reduceToNat, hcj, g2, hat2.live, hcel, hfit, hlt2, hidx, e1]) ?_)) | ((with_reducible refine And.intro ?_ ?_); first | (with_reducible rfl) | assumption | (simp only [go_sem]; done)))
      refine EK_again (j + 1) ?_ (by omega) (by omega)
      rw [hN]
      exact Weak.slots (by simp [go_sem])
    · rw [if_neg e] at hN
      have e1 : ((k : Int) = (j : Int)) = False := eq_false (by omega)
      have e0 : ((j : Int) = (o.length : Int)) = False := eq_false (by omega)
      have t1 : ((k : Int) + 1).toNat = k + 1 := by omega
      have hrv := revW_turn (L := (tfN o j).1) hjk (by omega)
      have hfl : ((tfN o j).1.flatMap i64C).length = o.length := by rw [flat_i64.flen, Nat.mul_one, hnl]
      have hn1 : norefH (H.length + 2) H := norefH_wf hw (by omega)
      have hfv := h.forget (n := H.length + 2) (by omega)
      have hd1 : (H.length = H.length + 1) = False := eq_false (by omega)
      have hd2 : (H.length + 1 = H.length) = False := eq_false (by omega)
      have hd3 : (i2 = H.length + 2) = False := eq_false (by omega)
      have hn2 : norefs (H.length + 2) ((turnL (tfN o j).1 j k).flatMap i64C) = true := flat_i64.norefs _ _
      have hn3 : norefs (H.length + 2) ((tfN o j).2.flatMap (rowL .i64 2)) = true := (flat_rowL .i64 2).norefs _ _
      have hfl2 : ((tfN o j).2.flatMap (rowL .i64 2)).length = (tfN o j).2.length * 2 := (flat_rowL .i64 2).flen _
      repeat (first | (simp only [go_sem, Int.reduceLT, Int.reduceLE, Int.reduceEq, Int.reduceToNat, hcj, g2, hat2.live, hcel, hfit, hlt2, hidx, e1, e0, hfl, hrv, t1, hn1, hfv, hd1, hd2, hd3, hn2, hn3, hfl2, hx, forget_t]) | ((with_reducible refine And.intro ?_ ?_); omega) | ((with_reducible refine isSK ?_); first | (refine call_ret (slicesIndex (l := (tfN o j).1) (Rd.own 1 rfl rfl (by omega)) (by omega)) (by simp only [go_sem, Int.reduceLT, Int.reduceLE, Int.reduceEq, Int.reduceToNat, hcj, g2, hat2.live, hcel, hfit, hlt2, hidx, e1, e0, hfl, hrv, t1, hn1, hfv, hd1, hd2, hd3, hn2, hn3, hfl2, hx, forget_t]) ?_) | (refine call_ret (reverseI (a := j) (n := k + 1 - j) (L := (tfN o j).1) (by first | exact (Go.Sx.get_at0 _ _).trans rfl | exact (Go.Sx.get_at _ _ 1).trans rfl | exact (Go.Sx.get_at _ _ 2).trans rfl | exact (Go.Sx.get_at _ _ 3).trans rfl | exact (Go.Sx.get_at _ _ 4).trans rfl | exact (Go.Sx.get_at _ _ 5).trans rfl | exact (Go.Sx.get_at _ _ 6).trans rfl | exact (Go.Sx.get_at _ _ 7).trans rfl | exact (Go.Sx.get_at _ _ 8).trans rfl | exact (Go.Sx.get_at _ _ 9).trans rfl | exact (Go.Sx.get_at _ _ 10).trans rfl | exact (Go.Sx.get_at _ _ 11).trans rfl) (by rfl) (by omega) (by omega)) (by simp only [go_sem, Int.reduceLT, Int.reduceLE, Int.reduceEq, Int.reduceToNat, hcj, g2, hat2.live, hcel, hfit, hlt2, hidx, e1, e0, hfl, hrv, t1, hn1, hfv, hd1, hd2, hd3, hn2, hn3, hfl2, hx, forget_t]) ?_)) | ((with_reducible refine isMC ?_); first | (refine mcall_ret (slicesIndex (l := (tfN o j).1) (Rd.own 1 rfl rfl (by omega)) (by omega)) (by simp only [go_sem, Int.reduceLT, Int.reduceLE, Int.reduceEq, Int.reduceToNat, hcj, g2, hat2.live, hcel, hfit, hlt2, hidx, e1, e0, hfl, hrv, t1, hn1, hfv, hd1, hd2, hd3, hn2, hn3, hfl2, hx, forget_t]) (by simp only [go_sem, Int.reduceLT, Int.reduceLE, Int.reduceEq, Int.reduceToNat, hcj, g2, hat2.live, hcel, hfit, hlt2, hidx, e1, e0, hfl, hrv, t1, hn1, hfv, hd1, hd2, hd3, hn2, hn3, hfl2, hx, forget_t]) ?_) | (refine mcall_ret (reverseI (a := j) (n := k + 1 - j) (L := (tfN o j).1) (by first | exact (Go.Sx.get_at0 _ _).trans rfl | exact (Go.Sx.get_at _ _ 1).trans rfl | exact (Go.Sx.get_at _ _ 2).trans rfl | exact (Go.Sx.get_at _ _ 3).trans rfl | exact (Go.Sx.get_at _ _ 4).trans rfl | exact (Go.Sx.get_at _ _ 5).trans rfl | exact (Go.Sx.get_at _ _ 6).trans rfl | exact (Go.Sx.get_at _ _ 7).trans rfl | exact (Go.Sx.get_at _ _ 8).trans rfl | exact (Go.Sx.get_at _ _ 9).trans rfl | exact (Go.Sx.get_at _ _ 10).trans rfl | exact (Go.Sx.get_at _ _ 11).trans rfl) (by rfl) (by omega) (by omega)) (by simp only [go_sem, Int.reduceLT, Int.reduceLE, Int.reduceEq, Int.reduceToNat, hcj, g2, hat2.live, hcel, hfit, hlt2, hidx, e1, e0, hfl, hrv, t1, hn1, hfv, hd1, hd2, hd3, hn2, hn3, hfl2, hx, forget_t]) (by simp only [go_sem, Int.reduceLT, Int.reduceLE, Int.reduceEq, Int.reduceToNat, hcj, g2, hat2.live, hcel, hfit, hlt2, hidx, e1, e0, hfl, hrv, t1, hn1, hfv, hd1, hd2, hd3, hn2, hn3, hfl2, hx, forget_t]) ?_)) | ((with_reducible refine And.intro ?_ ?_); first | (with_reducible rfl) | assumption | (simp only [go_sem]; done)))
      refine EK_again (j + 1) ?_ (by omega) (by omega)
      rw [hN, flat_snoc, ← pairF_row]
      have hvl3 : V.lt (H.length + 3) v = True := h.vlt (by omega)
      exact Weak.keepN rfl (by simp [go_sem] <;> omega) (by simp [hx]) (by simp [go_sem, flat_i64.lts, (flat_rowL .i64 2).lts, hlt2, hvl3] <;> omega) (hw.app (by simp [go_sem, flat_i64.lts, (flat_rowL .i64 2).lts, hlt2, hvl3] <;> omega))
  · have : j = o.length := by omega
    subst this
    repeat (first | (simp only [go_sem, Int.reduceLT, Int.reduceLE, Int.reduceEq, Int.reduceToNat, Int.not_lt.2 hcj]) | ((with_reducible refine And.intro ?_ ?_); omega) | ((with_reducible refine And.intro ?_ ?_); first | (with_reducible rfl) | assumption | (simp only [go_sem]; done)))
    refine ret_one hq hw _ (.inl rfl) 2 rfl (of_eq_true ((flat_rowL .i64 2).lts _ _)) (.t [.s H.length 0 (tfO o).length (.u 0), .v (.int .i64 0)]) (by simp [go_sem]) ?_
    simp [go_sem, conc, concs, upσ, Cap.val, tfO]
end Go.Proofs.Ytjkkallcgplgmaa

