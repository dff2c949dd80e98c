/- Contracts of functions of the translated program, by the walk. -/
import Derived.Test.YtpjimhkblldhaaaDoorRd5
set_option linter.unusedVariables false
set_option linter.unusedSimpArgs false
set_option maxRecDepth 8000
set_option maxHeartbeats 4000000
namespace Go.Proofs.YtpjimhkblldhaaaDoor
open Go Go.Sx
theorem implReadOrder_ok {H : List Blk} (hp : PinR H) {t : List Int} (h8 : B8 t) (hl : t.length ≤ 1000000) (hO : roOk t = true) :
    Cal Tryd.prog 17 [.v (.string (bstr t))] H fun u H' => u = .t [.s H.length 0 (roV t).length (.u 0), .v (.int .i64 0)] ∧ H' = H ++ [⟨(roV t).flatMap i64C, 2, .own 1⟩] := by
  have eV : roV t = (wds t).map wV := if_pos hO
  have hO2 := hO
  unfold roOk at hO2
  simp only [Bool.and_eq_true, decide_eq_true_eq, List.all_eq_true] at hO2
  by_cases h0 : t = []
  · subst h0
    rw [eV]
    refine cal_fn 34 mixed Tryd.func17 Tryd.ntmps17 Tryd.results17 rfl rfl rfl fun hw cx hx hq => ?_
    repeat (first | (simp only [go_sem, Int.reduceLT, Int.reduceLE, Int.reduceEq, Int.reduceToNat]) | ((with_reducible refine And.intro ?_ ?_); omega) | ((with_reducible refine isSK ?_); first | (refine call_ret (wordsNil) (by simp only [go_sem, Int.reduceLT, Int.reduceLE, Int.reduceEq, Int.reduceToNat]) ?_)) | ((with_reducible refine isMC ?_); first | (refine mcall_ret (wordsNil) (by simp only [go_sem, Int.reduceLT, Int.reduceLE, Int.reduceEq, Int.reduceToNat]) (by simp only [go_sem, Int.reduceLT, Int.reduceLE, Int.reduceEq, Int.reduceToNat]) ?_)) | ((with_reducible refine And.intro ?_ ?_); first | (with_reducible rfl) | assumption | (simp only [go_sem]; done)))
    refine WK_for (fun n : Nat => ⟨[.any, .any, .any, .any, .s H.length 0 0 (.u 0), .any, .any, .any, .any, .any, .any, .v (.slice none 0 0), .v (.int .i64 0), .v (.int .i64 0)] ++ junk 21, H ++ [⟨[], 2, .own 1⟩]⟩) (fun n => n = 0) (fun n => 0) 0 (Weak.slots ?_) rfl fun n hn => ?_
    · simp [go_sem]
    repeat (first | (simp only [go_sem, Int.reduceLT, Int.reduceLE, Int.reduceEq, Int.reduceToNat]) | ((with_reducible refine And.intro ?_ ?_); omega) | ((with_reducible refine And.intro ?_ ?_); first | (with_reducible rfl) | assumption | (simp only [go_sem]; done)))
    refine ret_at hq _ (.inl rfl) (by simp) ?_
    simp [go_sem, wds]
  rw [eV]
  have hn0 : ((bstr t).toList = (bstr []).toList) = False := eq_false (by rw [bstr_toL, bstr_toL]; intro h; exact h0 (u8L_inj h8 (fun x hx => by cases hx) h))
  have hwl := wds_len t
  have h8w := wds_8 h8
  have hlw := wds_wlen t
  obtain ⟨W, hW⟩ : ∃ W, W = wds t := ⟨_, rfl⟩
  rw [← hW] at hwl h8w hlw
  refine cal_fn 34 mixed Tryd.func17 Tryd.ntmps17 Tryd.results17 rfl rfl rfl fun hw cx hx hq => ?_
  repeat (first | (simp only [go_sem, Int.reduceLT, Int.reduceLE, Int.reduceEq, Int.reduceToNat, ← hW]) | ((with_reducible refine And.intro ?_ ?_); omega) | ((with_reducible refine isSK ?_); first | (refine call_ret (wordsC (by first | exact hp | exact hp.app) h8 hl h0) (by simp only [go_sem, Int.reduceLT, Int.reduceLE, Int.reduceEq, Int.reduceToNat, ← hW]) ?_)) | ((with_reducible refine isMC ?_); first | (refine mcall_ret (wordsC (by first | exact hp | exact hp.app) h8 hl h0) (by simp only [go_sem, Int.reduceLT, Int.reduceLE, Int.reduceEq, Int.reduceToNat, ← hW]) (by simp only [go_sem, Int.reduceLT, Int.reduceLE, Int.reduceEq, Int.reduceToNat, ← hW]) ?_)) | ((with_reducible refine And.intro ?_ ?_); first | (with_reducible rfl) | assumption | (simp only [go_sem]; done)))
  have hn1 : norefH H.length H := norefH_wf hw (Nat.le_refl _)
  refine WK_for (fun n : Nat => ⟨[.any, .any, .any, .any, .s H.length 0 n (.u 0), .any, .any, .any, .any, .any, .any, .s (H.length + 1) 0 W.length (.u 0), .v (.int .i64 W.length), .v (.int .i64 n)] ++ junk 21, H ++ [⟨((W.take n).map wV).flatMap i64C, 2, .own 1⟩, ⟨W.flatMap sC, 9, .own 1⟩]⟩) (fun n => n ≤ W.length) (fun n => W.length - n) 0 (Weak.slots ?_) ?_ fun n hn => ?_
  · simp [go_sem]
  · simp
  have hfl : (((W.take n).map wV).flatMap i64C).length = n := by rw [flat_i64.flen, Nat.mul_one, List.length_map, List.length_take]; omega
  have hfw : (W.flatMap sC).length = W.length := by rw [flat_sC.flen, Nat.mul_one]
  have hn2 : norefs H.length (((W.take n).map wV).flatMap i64C) = true := flat_i64.norefs _ _
  have hn3 : norefs H.length (W.flatMap sC) = true := flat_sC.norefs _ _
  have hd1 : (H.length + 1 = H.length) = False := eq_false (by omega)
  have hd2 : (H.length = H.length + 1) = False := eq_false (by omega)
  rw [← hW] at hO2
  rcases Int.lt_or_le (n : Int) W.length with hc | hc
  · skip
    have hj : n < W.length := by omega
    have hwm := List.getElem_mem hj
    have hat : At (H ++ [⟨((W.take n).map wV).flatMap i64C, 2, .own 1⟩, ⟨W.flatMap sC, 9, .own 1⟩]) (H.length + 1) 0 (W.flatMap sC) ⟨W.flatMap sC, 9, .own 1⟩ := by first | exact At.mk0 rfl | exact At.mk' 1 rfl rfl | exact At.mk' 2 rfl rfl | exact At.mk' 3 rfl rfl | exact At.mk' 4 rfl rfl | exact At.mk' 5 rfl rfl | exact At.mk' 6 rfl rfl | exact At.mk' 7 rfl rfl | exact At.mk' 8 rfl rfl | exact At.mk' 9 rfl rfl | exact At.mk' 10 rfl rfl | exact At.mk' 11 rfl rfl | exact At.mk' 12 rfl rfl | exact At.mk' 13 rfl rfl | exact At.mk' 14 rfl rfl | exact At.mk' 15 rfl rfl
    have hz := hat.str hj
    simp only [Nat.zero_add] at hz
    have hrd := rd_wB W[n]
    have eb := hO2.2 _ hwm
    have hrv := rd_wV eb
    rw [eb] at hrd
    have e4 : ((n : Int) = 40) = False := eq_false (by omega)
    have e3 := map_i64 W n hj
    repeat (first | (simp only [go_sem, Int.reduceLT, Int.reduceLE, Int.reduceEq, Int.reduceToNat, hc, hz, hfl, hfw, hrd, hrv, e4, hn1, hn2, hn3, hd1, hd2, hx]) | ((with_reducible refine And.intro ?_ ?_); omega) | ((with_reducible refine isSK ?_); first | (refine call_ret (readDec (by first | exact hp | exact hp.app) (h8w _ hwm) (Nat.le_trans (hlw _ hwm) hl) (by omega) (by omega)) (by simp only [go_sem, Int.reduceLT, Int.reduceLE, Int.reduceEq, Int.reduceToNat, hc, hz, hfl, hfw, hrd, hrv, e4, hn1, hn2, hn3, hd1, hd2, hx]) ?_)) | ((with_reducible refine isMC ?_); first | (refine mcall_ret (readDec (by first | exact hp | exact hp.app) (h8w _ hwm) (Nat.le_trans (hlw _ hwm) hl) (by omega) (by omega)) (by simp only [go_sem, Int.reduceLT, Int.reduceLE, Int.reduceEq, Int.reduceToNat, hc, hz, hfl, hfw, hrd, hrv, e4, hn1, hn2, hn3, hd1, hd2, hx]) (by simp only [go_sem, Int.reduceLT, Int.reduceLE, Int.reduceEq, Int.reduceToNat, hc, hz, hfl, hfw, hrd, hrv, e4, hn1, hn2, hn3, hd1, hd2, hx]) ?_)) | ((with_reducible refine And.intro ?_ ?_); first | (with_reducible rfl) | assumption | (simp only [go_sem]; done)))
    refine EK_again (n + 1) ?_ (by omega) (by omega)
    rw [e3]
    exact Weak.keepN rfl (by simp [go_sem] <;> omega) (by simp [hx]) (by simp [go_sem, flat_sC.lts, flat_i64.lts, sC] <;> omega) (hw.app (by simp [go_sem, flat_sC.lts, flat_i64.lts, sC] <;> omega))
  · have : n = W.length := by omega
    subst this
    rw [List.take_length] at hfl hn2 ⊢
    repeat (first | (simp only [go_sem, Int.reduceLT, Int.reduceLE, Int.reduceEq, Int.reduceToNat, Int.not_lt.2 hc, hfl, hfw]) | ((with_reducible refine And.intro ?_ ?_); omega) | ((with_reducible refine And.intro ?_ ?_); first | (with_reducible rfl) | assumption | (simp only [go_sem]; done)))
    refine ret_one hq hw _ (.inl rfl) 0 rfl (of_eq_true (flat_i64.lts _ _)) (.t [.s H.length 0 (W.map wV).length (.u 0), .v (.int .i64 0)]) (by simp [go_sem]) ?_
    simp [go_sem, conc, concs, upσ, Cap.val, hW]
theorem implReadOrder_bad {H : List Blk} (hp : PinR H) {t : List Int} (h8 : B8 t) (hl : t.length ≤ 1000000) (hO : roOk t = false) :
    Cal Tryd.prog 17 [.v (.string (bstr t))] H fun u H' => u = .t [.v (.slice none 0 0), .v (.int .i64 5)] ∧ H' = H := by
  by_cases h0 : t = []
  · exfalso
    subst h0
    exact absurd hO (by decide)
  have hn0 : ((bstr t).toList = (bstr []).toList) = False := eq_false (by rw [bstr_toL, bstr_toL]; intro h; exact h0 (u8L_inj h8 (fun x hx => by cases hx) h))
  have hwl := wds_len t
  have h8w := wds_8 h8
  have hlw := wds_wlen t
  obtain ⟨W, hW⟩ : ∃ W, W = wds t := ⟨_, rfl⟩
  rw [← hW] at hwl h8w hlw
  refine cal_fn 34 mixed Tryd.func17 Tryd.ntmps17 Tryd.results17 rfl rfl rfl fun hw cx hx hq => ?_
  repeat (first | (simp only [go_sem, Int.reduceLT, Int.reduceLE, Int.reduceEq, Int.reduceToNat, ← hW]) | ((with_reducible refine And.intro ?_ ?_); omega) | ((with_reducible refine isSK ?_); first | (refine call_ret (wordsC (by first | exact hp | exact hp.app) h8 hl h0) (by simp only [go_sem, Int.reduceLT, Int.reduceLE, Int.reduceEq, Int.reduceToNat, ← hW]) ?_)) | ((with_reducible refine isMC ?_); first | (refine mcall_ret (wordsC (by first | exact hp | exact hp.app) h8 hl h0) (by simp only [go_sem, Int.reduceLT, Int.reduceLE, Int.reduceEq, Int.reduceToNat, ← hW]) (by simp only [go_sem, Int.reduceLT, Int.reduceLE, Int.reduceEq, Int.reduceToNat, ← hW]) ?_)) | ((with_reducible refine And.intro ?_ ?_); first | (with_reducible rfl) | assumption | (simp only [go_sem]; done)))
  have hn1 : norefH H.length H := norefH_wf hw (Nat.le_refl _)
  refine WK_for (fun n : Nat => ⟨[.any, .any, .any, .any, .s H.length 0 n (.u 0), .any, .any, .any, .any, .any, .any, .s (H.length + 1) 0 W.length (.u 0), .v (.int .i64 W.length), .v (.int .i64 n)] ++ junk 21, H ++ [⟨((W.take n).map wV).flatMap i64C, 2, .own 1⟩, ⟨W.flatMap sC, 9, .own 1⟩]⟩) (fun n => n ≤ W.length ∧ n ≤ 40 ∧ ∀ w ∈ W.take n, wB w = true) (fun n => W.length - n) 0 (Weak.slots ?_) ?_ fun n hn => ?_
  · simp [go_sem]
  · simp
  have hfl : (((W.take n).map wV).flatMap i64C).length = n := by rw [flat_i64.flen, Nat.mul_one, List.length_map, List.length_take]; omega
  have hfw : (W.flatMap sC).length = W.length := by rw [flat_sC.flen, Nat.mul_one]
  have hn2 : norefs H.length (((W.take n).map wV).flatMap i64C) = true := flat_i64.norefs _ _
  have hn3 : norefs H.length (W.flatMap sC) = true := flat_sC.norefs _ _
  have hd1 : (H.length + 1 = H.length) = False := eq_false (by omega)
  have hd2 : (H.length = H.length + 1) = False := eq_false (by omega)
  rcases Int.lt_or_le (n : Int) W.length with hc | hc
  · skip
    have hj : n < W.length := by omega
    have hwm := List.getElem_mem hj
    have hat : At (H ++ [⟨((W.take n).map wV).flatMap i64C, 2, .own 1⟩, ⟨W.flatMap sC, 9, .own 1⟩]) (H.length + 1) 0 (W.flatMap sC) ⟨W.flatMap sC, 9, .own 1⟩ := by first | exact At.mk0 rfl | exact At.mk' 1 rfl rfl | exact At.mk' 2 rfl rfl | exact At.mk' 3 rfl rfl | exact At.mk' 4 rfl rfl | exact At.mk' 5 rfl rfl | exact At.mk' 6 rfl rfl | exact At.mk' 7 rfl rfl | exact At.mk' 8 rfl rfl | exact At.mk' 9 rfl rfl | exact At.mk' 10 rfl rfl | exact At.mk' 11 rfl rfl | exact At.mk' 12 rfl rfl | exact At.mk' 13 rfl rfl | exact At.mk' 14 rfl rfl | exact At.mk' 15 rfl rfl
    have hz := hat.str hj
    simp only [Nat.zero_add] at hz
    have hrd := rd_wB W[n]
    cases eb : wB W[n]
    · rw [eb] at hrd
      repeat (first | (simp only [go_sem, Int.reduceLT, Int.reduceLE, Int.reduceEq, Int.reduceToNat, hc, hz, hfl, hfw, hrd]) | ((with_reducible refine And.intro ?_ ?_); omega) | ((with_reducible refine isSK ?_); first | (refine call_ret (readDec (by first | exact hp | exact hp.app) (h8w _ hwm) (Nat.le_trans (hlw _ hwm) hl) (by omega) (by omega)) (by simp only [go_sem, Int.reduceLT, Int.reduceLE, Int.reduceEq, Int.reduceToNat, hc, hz, hfl, hfw, hrd]) ?_)) | ((with_reducible refine isMC ?_); first | (refine mcall_ret (readDec (by first | exact hp | exact hp.app) (h8w _ hwm) (Nat.le_trans (hlw _ hwm) hl) (by omega) (by omega)) (by simp only [go_sem, Int.reduceLT, Int.reduceLE, Int.reduceEq, Int.reduceToNat, hc, hz, hfl, hfw, hrd]) (by simp only [go_sem, Int.reduceLT, Int.reduceLE, Int.reduceEq, Int.reduceToNat, hc, hz, hfl, hfw, hrd]) ?_)) | ((with_reducible refine And.intro ?_ ?_); first | (with_reducible rfl) | assumption | (simp only [go_sem]; done)))
      refine ret_cut hq hw _ (.inl rfl) ?_
      simp [go_sem]
    · have hrv := rd_wV eb
      rw [eb] at hrd
      by_cases h40 : n = 40
      · have e4 : ((n : Int) = 40) = True := eq_true (by omega)
        repeat (first | (simp only [go_sem, Int.reduceLT, Int.reduceLE, Int.reduceEq, Int.reduceToNat, hc, hz, hfl, hfw, hrd, e4]) | ((with_reducible refine And.intro ?_ ?_); omega) | ((with_reducible refine isSK ?_); first | (refine call_ret (readDec (by first | exact hp | exact hp.app) (h8w _ hwm) (Nat.le_trans (hlw _ hwm) hl) (by omega) (by omega)) (by simp only [go_sem, Int.reduceLT, Int.reduceLE, Int.reduceEq, Int.reduceToNat, hc, hz, hfl, hfw, hrd, e4]) ?_)) | ((with_reducible refine isMC ?_); first | (refine mcall_ret (readDec (by first | exact hp | exact hp.app) (h8w _ hwm) (Nat.le_trans (hlw _ hwm) hl) (by omega) (by omega)) (by simp only [go_sem, Int.reduceLT, Int.reduceLE, Int.reduceEq, Int.reduceToNat, hc, hz, hfl, hfw, hrd, e4]) (by simp only [go_sem, Int.reduceLT, Int.reduceLE, Int.reduceEq, Int.reduceToNat, hc, hz, hfl, hfw, hrd, e4]) ?_)) | ((with_reducible refine And.intro ?_ ?_); first | (with_reducible rfl) | assumption | (simp only [go_sem]; done)))
        refine ret_cut hq hw _ (.inl rfl) ?_
        simp [go_sem]
      have e4 : ((n : Int) = 40) = False := eq_false (by omega)
      have hall : ∀ w ∈ W.take (n + 1), wB w = true := by
        intro w hw2
        rw [List.take_succ_eq_append_getElem hj] at hw2
        rcases List.mem_append.1 hw2 with hw2 | hw2
        · exact hn.2.2 w hw2
        · rw [List.mem_singleton.1 hw2]; exact eb
      have e3 := map_i64 W n hj
      repeat (first | (simp only [go_sem, Int.reduceLT, Int.reduceLE, Int.reduceEq, Int.reduceToNat, hc, hz, hfl, hfw, hrd, hrv, e4, hn1, hn2, hn3, hd1, hd2, hx]) | ((with_reducible refine And.intro ?_ ?_); omega) | ((with_reducible refine isSK ?_); first | (refine call_ret (readDec (by first | exact hp | exact hp.app) (h8w _ hwm) (Nat.le_trans (hlw _ hwm) hl) (by omega) (by omega)) (by simp only [go_sem, Int.reduceLT, Int.reduceLE, Int.reduceEq, Int.reduceToNat, hc, hz, hfl, hfw, hrd, hrv, e4, hn1, hn2, hn3, hd1, hd2, hx]) ?_)) | ((with_reducible refine isMC ?_); first | (refine mcall_ret (readDec (by first | exact hp | exact hp.app) (h8w _ hwm) (Nat.le_trans (hlw _ hwm) hl) (by omega) (by omega)) (by simp only [go_sem, Int.reduceLT, Int.reduceLE, Int.reduceEq, Int.reduceToNat, hc, hz, hfl, hfw, hrd, hrv, e4, hn1, hn2, hn3, hd1, hd2, hx]) (by simp only [go_sem, Int.reduceLT, Int.reduceLE, Int.reduceEq, Int.reduceToNat, hc, hz, hfl, hfw, hrd, hrv, e4, hn1, hn2, hn3, hd1, hd2, hx]) ?_)) | ((with_reducible refine And.intro ?_ ?_); first | (with_reducible rfl) | assumption | (simp only [go_sem]; done)))
      refine EK_again (n + 1) ?_ ⟨by omega, by omega, hall⟩ (by omega)
      rw [e3]
      exact Weak.keepN rfl (by simp [go_sem] <;> omega) (by simp [hx]) (by simp [go_sem, flat_sC.lts, flat_i64.lts, sC] <;> omega) (hw.app (by simp [go_sem, flat_sC.lts, flat_i64.lts, sC] <;> omega))
  · exfalso
    have : n = W.length := by omega
    subst this
    have hall := hn.2.2
    rw [List.take_length] at hall
    have : roOk t = true := by
      unfold roOk
      rw [← hW, decide_eq_true hn.2.1, List.all_eq_true.2 hall]; rfl
    rw [this] at hO
    cases hO
end Go.Proofs.YtpjimhkblldhaaaDoor

