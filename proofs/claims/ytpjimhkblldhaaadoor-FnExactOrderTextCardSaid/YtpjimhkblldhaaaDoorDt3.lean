/- Contracts of functions of the translated program, by the walk. -/
import Derived.Test.YtpjimhkblldhaaaDoorDt2
import Derived.Test.YtpjimhkblldhaaaDoorR1f
set_option linter.unusedVariables false
set_option linter.unusedSimpArgs false
set_option maxRecDepth 8000
set_option maxHeartbeats 4000000
namespace Go.Proofs.YtpjimhkblldhaaaDoor
open Go Go.Sx
theorem specOrderText {H : List Blk} {v : V} {l : List Int} (h : Rd H v i64C l) (hl : l.length ≤ 1000000) :
    Cal Tryd.prog 7 [v] H fun u H' => u = .v (.string (bstr (otT l))) ∧ H' = H := by
  have hsol := h.solid
  have hL := h.lenV (P := Tryd.prog) slTy22
  refine cal_fn 20 mixed Tryd.func7 Tryd.ntmps7 Tryd.results7 rfl rfl rfl fun hw cx hx hq => ?_
  repeat (first | (simp only [go_sem, Int.reduceLT, Int.reduceLE, Int.reduceEq, Int.reduceToNat, hsol, bs0]) | ((with_reducible refine And.intro ?_ ?_); omega) | ((with_reducible refine And.intro ?_ ?_); first | (with_reducible rfl) | assumption | (simp only [go_sem]; done)))
  refine WK_for (fun n : Nat => ⟨[v, .any, .any, .v (.int .i64 n)] ++ junk 17, H⟩) (fun n => n ≤ l.length ∧ okO (l.take n)) (fun n => l.length - n) 0 (Weak.slots ?_) ?_ fun n hn => ?_
  · simp [go_sem]
  · simp [okO]
  rcases Int.lt_or_le (n : Int) l.length with hc | hc
  · have hj : n < l.length := by omega
    obtain ⟨i, off, c, b, rfl, hat⟩ := h.row (by omega)
    have hll := hat.len (by rw [flat_i64.flen]; omega)
    rw [flat_i64.flen] at hll
    have hz := hat.i64 hj
    by_cases e : 0 ≤ l[n] ∧ l[n] ≤ 39
    · have e1 : decide (0 ≤ l[n]) = true := decide_eq_true e.1
      have e2 : decide (l[n] ≤ 39) = true := decide_eq_true e.2
      repeat (first | (simp only [go_sem, Int.reduceLT, Int.reduceLE, Int.reduceEq, Int.reduceToNat, hL, hc, hat.get, hat.live, hz, e1, e2]) | ((with_reducible refine And.intro ?_ ?_); omega) | ((with_reducible refine isSK ?_); first | (refine call_ret (l00In) (by simp only [go_sem, Int.reduceLT, Int.reduceLE, Int.reduceEq, Int.reduceToNat, hL, hc, hat.get, hat.live, hz, e1, e2]) ?_)) | ((with_reducible refine isMC ?_); first | (refine mcall_ret (l00In) (by simp only [go_sem, Int.reduceLT, Int.reduceLE, Int.reduceEq, Int.reduceToNat, hL, hc, hat.get, hat.live, hz, e1, e2]) (by simp only [go_sem, Int.reduceLT, Int.reduceLE, Int.reduceEq, Int.reduceToNat, hL, hc, hat.get, hat.live, hz, e1, e2]) ?_)) | ((with_reducible refine And.intro ?_ ?_); first | (with_reducible rfl) | assumption | (simp only [go_sem]; done)))
      refine EK_again (n + 1) (Weak.slots (by simp [go_sem])) ⟨by omega, fun k hk => ?_⟩ (by omega)
      rw [List.take_succ_eq_append_getElem hj] at hk
      rcases List.mem_append.1 hk with hk | hk
      · exact hn.2 k hk
      · rw [List.mem_singleton.1 hk]; exact e
    · have e1 : (decide (0 ≤ l[n]) && decide (l[n] ≤ 39)) = false := by
        rw [Bool.and_eq_false_iff]
        by_cases e0 : 0 ≤ l[n]
        · exact .inr (decide_eq_false fun e2 => e ⟨e0, e2⟩)
        · exact .inl (decide_eq_false e0)
      have e2 : otT l = [] := if_neg fun hh => e (hh.1 _ (List.getElem_mem hj))
      repeat (first | (simp only [go_sem, Int.reduceLT, Int.reduceLE, Int.reduceEq, Int.reduceToNat, hL, hc, hat.get, hat.live, hz, e1, bs0]) | ((with_reducible refine And.intro ?_ ?_); omega) | ((with_reducible refine isSK ?_); first | (refine call_ret (l00In) (by simp only [go_sem, Int.reduceLT, Int.reduceLE, Int.reduceEq, Int.reduceToNat, hL, hc, hat.get, hat.live, hz, e1, bs0]) ?_)) | ((with_reducible refine isMC ?_); first | (refine mcall_ret (l00In) (by simp only [go_sem, Int.reduceLT, Int.reduceLE, Int.reduceEq, Int.reduceToNat, hL, hc, hat.get, hat.live, hz, e1, bs0]) (by simp only [go_sem, Int.reduceLT, Int.reduceLE, Int.reduceEq, Int.reduceToNat, hL, hc, hat.get, hat.live, hz, e1, bs0]) ?_)) | ((with_reducible refine And.intro ?_ ?_); first | (with_reducible rfl) | assumption | (simp only [go_sem]; done)))
      refine ret_same hq _ (.inl rfl) ?_
      simp [go_sem, e2]
  · have : n = l.length := by omega
    subst this
    have ho := hn.2
    rw [List.take_length] at ho
    by_cases h40 : l.length ≤ 40
    · have e1 : ((40 : Int) < (l.length : Int)) = False := eq_false (by omega)
      have e2 : otT l = ordT l := if_pos ⟨ho, h40⟩
      repeat (first | (simp only [go_sem, Int.reduceLT, Int.reduceLE, Int.reduceEq, Int.reduceToNat, hsol, hL, Int.not_lt.2 hc, e1]) | ((with_reducible refine And.intro ?_ ?_); omega) | ((with_reducible refine isSK ?_); first | (refine call_ret (l04Text h ho h40) (by simp only [go_sem, Int.reduceLT, Int.reduceLE, Int.reduceEq, Int.reduceToNat, hsol, hL, Int.not_lt.2 hc, e1]) ?_)) | ((with_reducible refine isMC ?_); first | (refine mcall_ret (l04Text h ho h40) (by simp only [go_sem, Int.reduceLT, Int.reduceLE, Int.reduceEq, Int.reduceToNat, hsol, hL, Int.not_lt.2 hc, e1]) (by simp only [go_sem, Int.reduceLT, Int.reduceLE, Int.reduceEq, Int.reduceToNat, hsol, hL, Int.not_lt.2 hc, e1]) ?_)) | ((with_reducible refine And.intro ?_ ?_); first | (with_reducible rfl) | assumption | (simp only [go_sem]; done)))
      refine ret_same hq _ (.inl rfl) ?_
      simp [go_sem, e2]
    · have e1 : ((40 : Int) < (l.length : Int)) = True := eq_true (by omega)
      have e2 : otT l = [] := if_neg fun hh => h40 hh.2
      repeat (first | (simp only [go_sem, Int.reduceLT, Int.reduceLE, Int.reduceEq, Int.reduceToNat, hsol, hL, Int.not_lt.2 hc, e1, bs0]) | ((with_reducible refine And.intro ?_ ?_); omega) | ((with_reducible refine And.intro ?_ ?_); first | (with_reducible rfl) | assumption | (simp only [go_sem]; done)))
      refine ret_same hq _ (.inl rfl) ?_
      simp [go_sem, e2]
theorem implOrderText {H : List Blk} {v : V} {l : List Int} (h : Rd H v i64C l) (hl : l.length ≤ 1000000) :
    Cal Tryd.prog 9 [v] H fun u H' => u = .v (.string (bstr (otT l))) ∧ H' = H := by
  have hsol := h.solid
  have hL := h.lenV (P := Tryd.prog) slTy22
  refine cal_fn 26 mixed Tryd.func9 Tryd.ntmps9 Tryd.results9 rfl rfl rfl fun hw cx hx hq => ?_
  repeat (first | (simp only [go_sem, Int.reduceLT, Int.reduceLE, Int.reduceEq, Int.reduceToNat, hsol, hL, bs0]) | ((with_reducible refine And.intro ?_ ?_); omega) | ((with_reducible refine And.intro ?_ ?_); first | (with_reducible rfl) | assumption | (simp only [go_sem]; done)))
  refine WK_for (fun n : Nat => ⟨[.any, .any, .any, .s H.length 0 n (.u 0), .any, .any, .any, v, .v (.int .i64 l.length), .v (.int .i64 n)] ++ junk 17, H ++ [⟨(ordL (l.take n)).flatMap sC, 9, .own 1⟩]⟩) (fun n => n ≤ l.length ∧ okO (l.take n)) (fun n => l.length - n) 0 (Weak.slots ?_) ?_ fun n hn => ?_
  · simp [go_sem, ordL_nil]
  · simp [okO]
  have hfl : ((ordL (l.take n)).flatMap sC).length = n := by rw [flat_sC.flen, Nat.mul_one, ordL_len, List.length_take]; omega
  have hn1 : norefH H.length H := norefH_wf hw (Nat.le_refl _)
  have hn2 : norefs H.length ((ordL (l.take n)).flatMap sC) = true := flat_sC.norefs _ _
  have hd1 : (H.length + 1 = H.length) = False := eq_false (by omega)
  rcases Int.lt_or_le (n : Int) l.length with hc | hc
  · have hj : n < l.length := by omega
    obtain ⟨i, off, c, b, rfl, hat⟩ := h.row (by omega)
    have hil := hat.lt
    have hij : (i = H.length) = False := eq_false (by omega)
    have hll := hat.len (by rw [flat_i64.flen]; omega)
    rw [flat_i64.flen] at hll
    have hz := hat.i64 hj
    by_cases e : 0 ≤ l[n] ∧ l[n] ≤ 39
    · obtain ⟨k, hk2⟩ := Int.eq_ofNat_of_zero_le e.1
      have hk3 : k < 100 := by omega
      have hD := decT_len hk3
      have e1 : decide (0 ≤ (k : Int)) = true := decide_eq_true (by omega)
      have e2 : decide ((k : Int) ≤ 39) = true := decide_eq_true (by omega)
      have e3 := ordL_succ hj
      rw [hk2, Int.toNat_natCast] at e3
      rw [hk2] at hz
      repeat (first | (simp only [go_sem, Int.reduceLT, Int.reduceLE, Int.reduceEq, Int.reduceToNat, hc, (get_app hat.get), hat.live, hz, e1, e2, hfl, hn1, hn2, hd1, hx, hij]) | ((with_reducible refine And.intro ?_ ?_); omega) | ((with_reducible refine isSK ?_); first | (refine call_ret (inRange) (by simp only [go_sem, Int.reduceLT, Int.reduceLE, Int.reduceEq, Int.reduceToNat, hc, (get_app hat.get), hat.live, hz, e1, e2, hfl, hn1, hn2, hd1, hx, hij]) ?_) | (refine call_ret (decimalI hk3) (by simp only [go_sem, Int.reduceLT, Int.reduceLE, Int.reduceEq, Int.reduceToNat, hc, (get_app hat.get), hat.live, hz, e1, e2, hfl, hn1, hn2, hd1, hx, hij]) ?_)) | ((with_reducible refine isMC ?_); first | (refine mcall_ret (inRange) (by simp only [go_sem, Int.reduceLT, Int.reduceLE, Int.reduceEq, Int.reduceToNat, hc, (get_app hat.get), hat.live, hz, e1, e2, hfl, hn1, hn2, hd1, hx, hij]) (by simp only [go_sem, Int.reduceLT, Int.reduceLE, Int.reduceEq, Int.reduceToNat, hc, (get_app hat.get), hat.live, hz, e1, e2, hfl, hn1, hn2, hd1, hx, hij]) ?_) | (refine mcall_ret (decimalI hk3) (by simp only [go_sem, Int.reduceLT, Int.reduceLE, Int.reduceEq, Int.reduceToNat, hc, (get_app hat.get), hat.live, hz, e1, e2, hfl, hn1, hn2, hd1, hx, hij]) (by simp only [go_sem, Int.reduceLT, Int.reduceLE, Int.reduceEq, Int.reduceToNat, hc, (get_app hat.get), hat.live, hz, e1, e2, hfl, hn1, hn2, hd1, hx, hij]) ?_)) | ((with_reducible refine And.intro ?_ ?_); first | (with_reducible rfl) | assumption | (simp only [go_sem]; done)))
      refine EK_again (n + 1) ?_ ⟨by omega, fun x hx2 => ?_⟩ (by omega)
      · rw [e3, List.flatMap_append, List.flatMap_singleton]
        exact Weak.keepN rfl (by simp [go_sem] <;> omega) (by simp [hx]) (by simp [go_sem, hil, flat_sC.lts, sC] <;> omega) (hw.app (by simp [go_sem, hil, flat_sC.lts, sC] <;> omega))
      · rw [List.take_succ_eq_append_getElem hj] at hx2
        rcases List.mem_append.1 hx2 with hx2 | hx2
        · exact hn.2 x hx2
        · rw [List.mem_singleton.1 hx2]; exact e
    · have e1 : (decide (0 ≤ l[n]) && decide (l[n] ≤ 39)) = false := by
        rw [Bool.and_eq_false_iff]
        by_cases e0 : 0 ≤ l[n]
        · exact .inr (decide_eq_false fun e2 => e ⟨e0, e2⟩)
        · exact .inl (decide_eq_false e0)
      have e2 : otT l = [] := if_neg fun hh => e (hh.1 _ (List.getElem_mem hj))
      repeat (first | (simp only [go_sem, Int.reduceLT, Int.reduceLE, Int.reduceEq, Int.reduceToNat, hc, (get_app hat.get), hat.live, hz, e1, hij, bs0]) | ((with_reducible refine And.intro ?_ ?_); omega) | ((with_reducible refine isSK ?_); first | (refine call_ret (inRange) (by simp only [go_sem, Int.reduceLT, Int.reduceLE, Int.reduceEq, Int.reduceToNat, hc, (get_app hat.get), hat.live, hz, e1, hij, bs0]) ?_)) | ((with_reducible refine isMC ?_); first | (refine mcall_ret (inRange) (by simp only [go_sem, Int.reduceLT, Int.reduceLE, Int.reduceEq, Int.reduceToNat, hc, (get_app hat.get), hat.live, hz, e1, hij, bs0]) (by simp only [go_sem, Int.reduceLT, Int.reduceLE, Int.reduceEq, Int.reduceToNat, hc, (get_app hat.get), hat.live, hz, e1, hij, bs0]) ?_)) | ((with_reducible refine And.intro ?_ ?_); first | (with_reducible rfl) | assumption | (simp only [go_sem]; done)))
      refine ret_cut hq hw _ (.inl rfl) ?_
      simp [go_sem, e2]
  · have : n = l.length := by omega
    subst this
    have ho := hn.2
    rw [List.take_length] at ho hfl hn2 ⊢
    have hjl := ordT_len ho
    by_cases h40 : l.length ≤ 40
    · have e1 : ((40 : Int) < (l.length : Int)) = False := eq_false (by omega)
      have e2 : otT l = ordT l := if_pos ⟨ho, h40⟩
      have hjn := join_len [32] (ordL l)
      have hjl2 : (jnT [32] (ordL l)).length ≤ 3 * l.length := hjl
      repeat (first | (simp only [go_sem, Int.reduceLT, Int.reduceLE, Int.reduceEq, Int.reduceToNat, Int.not_lt.2 hc, e1, hfl, bs32]) | ((with_reducible refine And.intro ?_ ?_); omega) | ((with_reducible refine isSK ?_); first | (refine call_ret (joinC (xs := ordL l) (sep := [32]) (by first | exact (Go.Sx.get_at0 _ _).trans rfl | exact (Go.Sx.get_at _ _ 1).trans rfl | exact (Go.Sx.get_at _ _ 2).trans rfl | exact (Go.Sx.get_at _ _ 3).trans rfl | exact (Go.Sx.get_at _ _ 4).trans rfl | exact (Go.Sx.get_at _ _ 5).trans rfl | exact (Go.Sx.get_at _ _ 6).trans rfl | exact (Go.Sx.get_at _ _ 7).trans rfl | exact (Go.Sx.get_at _ _ 8).trans rfl | exact (Go.Sx.get_at _ _ 9).trans rfl | exact (Go.Sx.get_at _ _ 10).trans rfl | exact (Go.Sx.get_at _ _ 11).trans rfl | exact (Go.Sx.get_at _ _ 12).trans rfl | exact (Go.Sx.get_at _ _ 13).trans rfl | exact (Go.Sx.get_at _ _ 14).trans rfl | exact (Go.Sx.get_at _ _ 15).trans rfl) (by rw [ordL_len]) (.inr rfl) (by omega) (by rw [ordL_len]; omega)) (by simp only [go_sem, Int.reduceLT, Int.reduceLE, Int.reduceEq, Int.reduceToNat, Int.not_lt.2 hc, e1, hfl, bs32]) ?_)) | ((with_reducible refine isMC ?_); first | (refine mcall_ret (joinC (xs := ordL l) (sep := [32]) (by first | exact (Go.Sx.get_at0 _ _).trans rfl | exact (Go.Sx.get_at _ _ 1).trans rfl | exact (Go.Sx.get_at _ _ 2).trans rfl | exact (Go.Sx.get_at _ _ 3).trans rfl | exact (Go.Sx.get_at _ _ 4).trans rfl | exact (Go.Sx.get_at _ _ 5).trans rfl | exact (Go.Sx.get_at _ _ 6).trans rfl | exact (Go.Sx.get_at _ _ 7).trans rfl | exact (Go.Sx.get_at _ _ 8).trans rfl | exact (Go.Sx.get_at _ _ 9).trans rfl | exact (Go.Sx.get_at _ _ 10).trans rfl | exact (Go.Sx.get_at _ _ 11).trans rfl | exact (Go.Sx.get_at _ _ 12).trans rfl | exact (Go.Sx.get_at _ _ 13).trans rfl | exact (Go.Sx.get_at _ _ 14).trans rfl | exact (Go.Sx.get_at _ _ 15).trans rfl) (by rw [ordL_len]) (.inr rfl) (by omega) (by rw [ordL_len]; omega)) (by simp only [go_sem, Int.reduceLT, Int.reduceLE, Int.reduceEq, Int.reduceToNat, Int.not_lt.2 hc, e1, hfl, bs32]) (by simp only [go_sem, Int.reduceLT, Int.reduceLE, Int.reduceEq, Int.reduceToNat, Int.not_lt.2 hc, e1, hfl, bs32]) ?_)) | ((with_reducible refine And.intro ?_ ?_); first | (with_reducible rfl) | assumption | (simp only [go_sem]; done)))
      refine ret_cut hq hw _ (.inl rfl) ?_
      simp [go_sem, e2, joinT_eq, ordT]
    · have e1 : ((40 : Int) < (l.length : Int)) = True := eq_true (by omega)
      have e2 : otT l = [] := if_neg fun hh => h40 hh.2
      repeat (first | (simp only [go_sem, Int.reduceLT, Int.reduceLE, Int.reduceEq, Int.reduceToNat, Int.not_lt.2 hc, e1, hfl, bs0]) | ((with_reducible refine And.intro ?_ ?_); omega) | ((with_reducible refine And.intro ?_ ?_); first | (with_reducible rfl) | assumption | (simp only [go_sem]; done)))
      refine ret_cut hq hw _ (.inl rfl) ?_
      simp [go_sem, e2]
end Go.Proofs.YtpjimhkblldhaaaDoor

