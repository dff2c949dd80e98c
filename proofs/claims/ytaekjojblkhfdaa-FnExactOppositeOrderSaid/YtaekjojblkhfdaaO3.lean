/- Contracts of functions of the translated program, by the walk. -/
import Derived.Test.YtaekjojblkhfdaaF3
import Derived.Test.YtaekjojblkhfdaaB5
set_option linter.unusedVariables false
set_option linter.unusedSimpArgs false
set_option maxRecDepth 8000
set_option maxHeartbeats 4000000
namespace Go.Proofs.Ytaekjojblkhfdaa
open Go Go.Sx
/-- The places of the numbers. -/
def opN (o : List Int) : Nat → List Int
  | 0 => List.replicate o.length 0
  | i + 1 => (opN o i).set (o[i]?.getD 0).toNat i
theorem opN_len (o : List Int) : ∀ n, (opN o n).length = o.length
  | 0 => by simp [opN]
  | n + 1 => by rw [opN, List.length_set, opN_len o n]
def opC (o : List Int) : Int := if 40 < o.length then 3 else if isOrd o o.length = true then 0 else 4
theorem opC_ok {o : List Int} (h : opC o = 0) : o.length ≤ 40 ∧ isOrd o o.length = true := by
  unfold opC at h
  split at h
  · cases h
  · split at h
    · rename_i h1 h2; exact ⟨by omega, h2⟩
    · cases h
theorem opN_zero (o : List Int) : zerosL [.v (.int .i64 0)] o.length = (opN o 0).flatMap i64C := zeros_flat i64C 0 _
theorem set_i64 (l : List Int) (j : Nat) (x : Int) (h : j < l.length) : wr (l.flatMap i64C) j [.v (.int .i64 x)] = (l.set j x).flatMap i64C := by
  have := flat_set i64C 1 (fun _ => rfl) l j x h
  rwa [Nat.mul_one] at this
theorem implOpp_err {H : List Blk} {w : V} {o : List Int} (h2 : Rd H w i64C o) (hlo : o.length ≤ 1000000) (hc : opC o ≠ 0) :
    Cal Try.prog 13 [w] H fun u H' => u = .t [.v (.slice none 0 0), .v (.int .i64 (opC o))] ∧ H' = H := by
  have hsol2 := h2.solid
  have hL := h2.lenV (P := Try.prog) slTy23
  refine cal_fn 32 mixed Try.func13 Try.ntmps13 Try.results13 rfl rfl rfl fun hw cx hx hq => ?_
  by_cases e : 40 < o.length
  · have hC : opC o = 3 := by unfold opC; rw [if_pos e]
    have b1 : ((40 : Int) < (o.length : Int)) = True := eq_true (by omega)
    repeat (first | (simp only [go_sem, Int.reduceLT, Int.reduceLE, Int.reduceEq, Int.reduceToNat, hsol2, hL, b1]) | ((with_reducible refine And.intro ?_ ?_); omega) | ((with_reducible refine And.intro ?_ ?_); first | (with_reducible rfl) | assumption | (simp only [go_sem]; done)))
    refine ret_same hq _ (.inl rfl) ?_
    simp [go_sem, hC]
  have b1 : ((40 : Int) < (o.length : Int)) = False := eq_false (by omega)
  cases e2 : isOrd o o.length
  · have hC : opC o = 4 := by unfold opC; rw [if_neg e, e2]; rfl
    repeat (first | (simp only [go_sem, Int.reduceLT, Int.reduceLE, Int.reduceEq, Int.reduceToNat, hsol2, hL, b1, e2]) | ((with_reducible refine And.intro ?_ ?_); omega) | ((with_reducible refine isSK ?_); first | (refine call_ret (isOrderOf (n := o.length) h2 (by omega) (by omega)) (by simp only [go_sem, Int.reduceLT, Int.reduceLE, Int.reduceEq, Int.reduceToNat, hsol2, hL, b1, e2]) ?_)) | ((with_reducible refine isMC ?_); first | (refine mcall_ret (isOrderOf (n := o.length) h2 (by omega) (by omega)) (by simp only [go_sem, Int.reduceLT, Int.reduceLE, Int.reduceEq, Int.reduceToNat, hsol2, hL, b1, e2]) (by simp only [go_sem, Int.reduceLT, Int.reduceLE, Int.reduceEq, Int.reduceToNat, hsol2, hL, b1, e2]) ?_)) | ((with_reducible refine And.intro ?_ ?_); first | (with_reducible rfl) | assumption | (simp only [go_sem]; done)))
    refine ret_same hq _ (.inl rfl) ?_
    simp [go_sem, hC]
  · exact absurd (by unfold opC; rw [if_neg e, if_pos e2]) hc
theorem implOpp_ok {H : List Blk} {w : V} {o : List Int} (h2 : Rd H w i64C o) (hc : opC o = 0) :
    Cal Try.prog 13 [w] H fun u H' => u = .t [.s H.length 0 (opN o o.length).length (.k o.length), .v (.int .i64 0)] ∧ H' = H ++ [⟨(opN o o.length).flatMap i64C, 2, .fix⟩] := by
  have hsol2 := h2.solid
  have hL := h2.lenV (P := Try.prog) slTy23
  obtain ⟨hlen, e2⟩ := opC_ok hc
  have ho := isOrd_iff.1 e2
  have b1 : ((40 : Int) < (o.length : Int)) = False := eq_false (by omega)
  have hz := opN_zero o
  rw [opN_len]
  refine cal_fn 32 mixed Try.func13 Try.ntmps13 Try.results13 rfl rfl rfl fun hw cx hx hq => ?_
  repeat (first | (simp only [go_sem, Int.reduceLT, Int.reduceLE, Int.reduceEq, Int.reduceToNat, hsol2, hL, b1, e2, hz]) | ((with_reducible refine And.intro ?_ ?_); omega) | ((with_reducible refine isSK ?_); first | (refine call_ret (isOrderOf (n := o.length) h2 (by omega) (by omega)) (by simp only [go_sem, Int.reduceLT, Int.reduceLE, Int.reduceEq, Int.reduceToNat, hsol2, hL, b1, e2, hz]) ?_)) | ((with_reducible refine isMC ?_); first | (refine mcall_ret (isOrderOf (n := o.length) h2 (by omega) (by omega)) (by simp only [go_sem, Int.reduceLT, Int.reduceLE, Int.reduceEq, Int.reduceToNat, hsol2, hL, b1, e2, hz]) (by simp only [go_sem, Int.reduceLT, Int.reduceLE, Int.reduceEq, Int.reduceToNat, hsol2, hL, b1, e2, hz]) ?_)) | ((with_reducible refine And.intro ?_ ?_); first | (with_reducible rfl) | assumption | (simp only [go_sem]; done)))
  refine WK_for (fun n : Nat => ⟨[w, .any, .any, .any, .s H.length 0 o.length (.k o.length), .any, .any, .any, .any, .any, .any, .any, .any, .any, .any, .any, .any, .any, .any, .any, w, .v (.int .i64 o.length), .v (.int .i64 n)] ++ junk 10, H ++ [⟨(opN o n).flatMap i64C, 2, .fix⟩]⟩) (fun n => n ≤ o.length) (fun n => o.length - n) 0 (Weak.slots ?_) ?_ fun n hn => ?_
  · simp [go_sem]
  · simp
  rcases Int.lt_or_le (n : Int) o.length with hc1 | hc1
  · have hj : n < o.length := by omega
    obtain ⟨i2, off2, c2, b2, rfl, hat2, hfit2⟩ := h2.full (by omega)
    have hcel := hat2.i64 hj
    have hfit := hat2.fits i64C 1 (fun _ => rfl) hj (by omega)
    have hlt2 := hat2.lt
    have g2 : ∀ L : List Blk, (H ++ L)[i2]? = some b2 := fun L => get_app hat2.get
    have hr := ho.2.1 o[n] (List.getElem_mem hj)
    obtain ⟨k, hk2⟩ : ∃ k : Nat, o[n] = k := ⟨o[n].toNat, by omega⟩
    rw [hk2] at hcel hr
    have hkl : k < o.length := by omega
    have hfl : ((opN o n).flatMap i64C).length = o.length := by rw [flat_i64.flen, Nat.mul_one, opN_len]
    have hs := set_i64 (opN o n) k (n : Int) (by rw [opN_len]; exact hkl)
    have hnext : opN o (n + 1) = (opN o n).set k (n : Int) := by
      rw [opN, List.getElem?_eq_getElem hj, Option.getD_some, hk2, Int.toNat_natCast]
    have hd : (i2 = H.length) = False := eq_false (by omega)
    repeat (first | (simp only [go_sem, Int.reduceLT, Int.reduceLE, Int.reduceEq, Int.reduceToNat, hL, hc1, hat2.get, g2, hat2.live, hcel, hfit, hlt2, hfl, hs, hd]) | ((with_reducible refine And.intro ?_ ?_); omega) | ((with_reducible refine And.intro ?_ ?_); first | (with_reducible rfl) | assumption | (simp only [go_sem]; done)))
    refine EK_again (n + 1) ?_ (by omega) (by omega)
    rw [hnext]
    exact Weak.slots (by simp [go_sem])
  · have : n = o.length := by omega
    subst this
    repeat (first | (simp only [go_sem, Int.reduceLT, Int.reduceLE, Int.reduceEq, Int.reduceToNat, hL, Int.not_lt.2 hc1]) | ((with_reducible refine And.intro ?_ ?_); omega) | ((with_reducible refine And.intro ?_ ?_); first | (with_reducible rfl) | assumption | (simp only [go_sem]; done)))
    refine ret_at hq _ (.inl rfl) (by simp) ?_
    simp [go_sem]
theorem specOpp_err {H : List Blk} {w : V} {o : List Int} (h2 : Rd H w i64C o) (hk : KC w) (hlo : o.length ≤ 1000000) (hc : opC o ≠ 0) :
    Cal Try.prog 12 [w] H fun u H' => u = .t [.s H.length 0 0 (.u 0), .v (.int .i64 (opC o))] ∧ H' = H ++ [⟨[], 2, .own 1⟩] := by
  have hsol2 := h2.solid
  have hL := h2.lenV (P := Try.prog) slTy23
  refine cal_fn 32 mixed Try.func12 Try.ntmps12 Try.results12 rfl rfl rfl fun hw cx hx hq => ?_
  by_cases e : 40 < o.length
  · have hC : opC o = 3 := by unfold opC; rw [if_pos e]
    have b1 : ((40 : Int) < (o.length : Int)) = True := eq_true (by omega)
    repeat (first | (simp only [go_sem, Int.reduceLT, Int.reduceLE, Int.reduceEq, Int.reduceToNat, hsol2, hL, b1]) | ((with_reducible refine And.intro ?_ ?_); omega) | ((with_reducible refine And.intro ?_ ?_); first | (with_reducible rfl) | assumption | (simp only [go_sem]; done)))
    refine ret_at hq _ (.inl rfl) (by simp) ?_
    simp [go_sem, hC]
  have b1 : ((40 : Int) < (o.length : Int)) = False := eq_false (by omega)
  cases e2 : isOrd o o.length
  · have hC : opC o = 4 := by unfold opC; rw [if_neg e, e2]; rfl
    repeat (first | (simp only [go_sem, Int.reduceLT, Int.reduceLE, Int.reduceEq, Int.reduceToNat, hsol2, hL, b1, e2]) | ((with_reducible refine And.intro ?_ ?_); omega) | ((with_reducible refine isSK ?_); first | (refine call_ret (l04Order (n := o.length) h2 hk (by omega) (by omega)) (by simp only [go_sem, Int.reduceLT, Int.reduceLE, Int.reduceEq, Int.reduceToNat, hsol2, hL, b1, e2]) ?_)) | ((with_reducible refine isMC ?_); first | (refine mcall_ret (l04Order (n := o.length) h2 hk (by omega) (by omega)) (by simp only [go_sem, Int.reduceLT, Int.reduceLE, Int.reduceEq, Int.reduceToNat, hsol2, hL, b1, e2]) (by simp only [go_sem, Int.reduceLT, Int.reduceLE, Int.reduceEq, Int.reduceToNat, hsol2, hL, b1, e2]) ?_)) | ((with_reducible refine And.intro ?_ ?_); first | (with_reducible rfl) | assumption | (simp only [go_sem]; done)))
    refine ret_at hq _ (.inl rfl) (by simp) ?_
    simp [go_sem, hC]
  · exact absurd (by unfold opC; rw [if_neg e, if_pos e2]) hc
theorem specOpp_ok {H : List Blk} {w : V} {o : List Int} (h2 : Rd H w i64C o) (hk : KC w) (hc : opC o = 0) :
    Cal Try.prog 12 [w] H fun u H' => u = .t [.s H.length 0 (opN o o.length).length (.k o.length), .v (.int .i64 0)] ∧ H' = H ++ [⟨(opN o o.length).flatMap i64C, 2, .fix⟩] := by
  have hsol2 := h2.solid
  have hL := h2.lenV (P := Try.prog) slTy23
  obtain ⟨hlen, e2⟩ := opC_ok hc
  have ho := isOrd_iff.1 e2
  have b1 : ((40 : Int) < (o.length : Int)) = False := eq_false (by omega)
  have hz := opN_zero o
  rw [opN_len]
  refine cal_fn 32 mixed Try.func12 Try.ntmps12 Try.results12 rfl rfl rfl fun hw cx hx hq => ?_
  repeat (first | (simp only [go_sem, Int.reduceLT, Int.reduceLE, Int.reduceEq, Int.reduceToNat, hsol2, hL, b1, e2, hz]) | ((with_reducible refine And.intro ?_ ?_); omega) | ((with_reducible refine isSK ?_); first | (refine call_ret (l04Order (n := o.length) h2 hk (by omega) (by omega)) (by simp only [go_sem, Int.reduceLT, Int.reduceLE, Int.reduceEq, Int.reduceToNat, hsol2, hL, b1, e2, hz]) ?_)) | ((with_reducible refine isMC ?_); first | (refine mcall_ret (l04Order (n := o.length) h2 hk (by omega) (by omega)) (by simp only [go_sem, Int.reduceLT, Int.reduceLE, Int.reduceEq, Int.reduceToNat, hsol2, hL, b1, e2, hz]) (by simp only [go_sem, Int.reduceLT, Int.reduceLE, Int.reduceEq, Int.reduceToNat, hsol2, hL, b1, e2, hz]) ?_)) | ((with_reducible refine And.intro ?_ ?_); first | (with_reducible rfl) | assumption | (simp only [go_sem]; done)))
  refine WK_for (fun n : Nat => ⟨[w, .any, .any, .any, .s H.length 0 o.length (.k o.length), .v (.int .i64 n)] ++ junk 27, H ++ [⟨(opN o n).flatMap i64C, 2, .fix⟩]⟩) (fun n => n ≤ o.length) (fun n => o.length - n) 0 (Weak.slots ?_) ?_ fun n hn => ?_
  · simp [go_sem]
  · simp
  rcases Int.lt_or_le (n : Int) o.length with hc1 | hc1
  · have hj : n < o.length := by omega
    obtain ⟨i2, off2, c2, b2, rfl, hat2, hfit2⟩ := h2.full (by omega)
    have hcel := hat2.i64 hj
    have hfit := hat2.fits i64C 1 (fun _ => rfl) hj (by omega)
    have hlt2 := hat2.lt
    have g2 : ∀ L : List Blk, (H ++ L)[i2]? = some b2 := fun L => get_app hat2.get
    have hr := ho.2.1 o[n] (List.getElem_mem hj)
    obtain ⟨k, hk2⟩ : ∃ k : Nat, o[n] = k := ⟨o[n].toNat, by omega⟩
    rw [hk2] at hcel hr
    have hkl : k < o.length := by omega
    have hfl : ((opN o n).flatMap i64C).length = o.length := by rw [flat_i64.flen, Nat.mul_one, opN_len]
    have hs := set_i64 (opN o n) k (n : Int) (by rw [opN_len]; exact hkl)
    have hnext : opN o (n + 1) = (opN o n).set k (n : Int) := by
      rw [opN, List.getElem?_eq_getElem hj, Option.getD_some, hk2, Int.toNat_natCast]
    have hd : (i2 = H.length) = False := eq_false (by omega)
    repeat (first | (simp only [go_sem, Int.reduceLT, Int.reduceLE, Int.reduceEq, Int.reduceToNat, hL, hc1, hat2.get, g2, hat2.live, hcel, hfit, hlt2, hfl, hs, hd]) | ((with_reducible refine And.intro ?_ ?_); omega) | ((with_reducible refine And.intro ?_ ?_); first | (with_reducible rfl) | assumption | (simp only [go_sem]; done)))
    refine EK_again (n + 1) ?_ (by omega) (by omega)
    rw [hnext]
    exact Weak.slots (by simp [go_sem])
  · have : n = o.length := by omega
    subst this
    repeat (first | (simp only [go_sem, Int.reduceLT, Int.reduceLE, Int.reduceEq, Int.reduceToNat, hL, Int.not_lt.2 hc1]) | ((with_reducible refine And.intro ?_ ?_); omega) | ((with_reducible refine And.intro ?_ ?_); first | (with_reducible rfl) | assumption | (simp only [go_sem]; done)))
    refine ret_at hq _ (.inl rfl) (by simp) ?_
    simp [go_sem]
end Go.Proofs.Ytaekjojblkhfdaa

