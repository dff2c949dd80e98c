/- Contracts of functions of the translated program, by the walk. -/
import Derived.Test.YtpjimhkblldhaaaDoorRt2
set_option linter.unusedVariables false
set_option linter.unusedSimpArgs false
set_option maxRecDepth 8000
set_option maxHeartbeats 4000000
namespace Go.Proofs.YtpjimhkblldhaaaDoor
open Go Go.Sx
theorem implReadTrack_ok {H : List Blk} (hp : PinR H) {t : List Int} (h8 : B8 t) (hl : t.length ≤ 1000000) (hO : rtOk t = true) :
    Cal Tryd.prog 22 [.v (.string (bstr t))] H fun u H' => u = .t [.s H.length 0 (rtV t).length (.u 0), .v (.int .i64 0)] ∧ H' = H ++ [⟨(rtV t).flatMap encK, 51, .own 3⟩] := by
  have eV := rtV_im hO
  have hO2 := hO
  rw [rtOk_im] at hO2
  simp only [Bool.and_eq_true, List.all_eq_true] at hO2
  have h0 : t ≠ [] := by rintro rfl; cases hO
  rw [eV]
  have hn0 : ((bstr t).toList = (bstr []).toList) = False := eq_false (by rw [bstr_toL, bstr_toL]; intro h; exact h0 (u8L_inj h8 (fun x hx => by cases hx) h))
  have hwl := wds_len t
  have h8w := wds_8 h8
  have hlw := wds_wlen t
  obtain ⟨W, hW⟩ : ∃ W, W = wds t := ⟨_, rfl⟩
  rw [← hW] at hwl h8w hlw
  refine cal_fn 83 mixed Tryd.func22 Tryd.ntmps22 Tryd.results22 rfl rfl rfl fun hw cx hx hq => ?_
  repeat (first | (simp only [go_sem, Int.reduceLT, Int.reduceLE, Int.reduceEq, Int.reduceToNat, ← hW]) | ((with_reducible refine And.intro ?_ ?_); omega) | ((with_reducible refine isSK ?_); first | (refine call_ret (wordsC (by first | exact hp | exact hp.app) h8 hl h0) (by simp only [go_sem, Int.reduceLT, Int.reduceLE, Int.reduceEq, Int.reduceToNat, ← hW]) ?_)) | ((with_reducible refine isMC ?_); first | (refine mcall_ret (wordsC (by first | exact hp | exact hp.app) h8 hl h0) (by simp only [go_sem, Int.reduceLT, Int.reduceLE, Int.reduceEq, Int.reduceToNat, ← hW]) (by simp only [go_sem, Int.reduceLT, Int.reduceLE, Int.reduceEq, Int.reduceToNat, ← hW]) ?_)) | ((with_reducible refine And.intro ?_ ?_); first | (with_reducible rfl) | assumption | (simp only [go_sem]; done)))
  have hn1 : norefH H.length H := norefH_wf hw (Nat.le_refl _)
  refine WK_for (fun n : Nat => ⟨[.any, .any, .any, .any, .s H.length 0 n (.u 0), .any, .any, .any, .any, .any, .any, .any, .any, .any, .any, .any, .any, .any, .any, .any, .any, .s (H.length + 1) 0 W.length (.u 0), .v (.int .i64 W.length), .v (.int .i64 n)] ++ junk 60, H ++ [⟨((W.take n).map imF).flatMap encK, 51, .own 3⟩, ⟨W.flatMap sC, 9, .own 1⟩]⟩) (fun n => n ≤ W.length ∧ ∀ w ∈ W.take n, imO w = true) (fun n => W.length - n) 0 (Weak.slots ?_) ?_ fun n hn => ?_
  · simp [go_sem]
  · simp
  have hfl : (((W.take n).map imF).flatMap encK).length = n * 3 := by rw [flat_encK.flen, List.length_map, List.length_take, Nat.min_eq_left hn.1]
  have hfw : (W.flatMap sC).length = W.length := by rw [flat_sC.flen, Nat.mul_one]
  have hn2 : norefs H.length (((W.take n).map imF).flatMap encK) = true := flat_encK.norefs _ _
  have hn3 : norefs H.length (W.flatMap sC) = true := flat_sC.norefs _ _
  have hd1 : (H.length + 1 = H.length) = False := eq_false (by omega)
  have hd2 : (H.length = H.length + 1) = False := eq_false (by omega)
  rw [← hW] at hO2
  rcases Int.lt_or_le (n : Int) W.length with hc | hc
  · skip
    have hj : n < W.length := by omega
    have hwm := List.getElem_mem hj
    have hat : At (H ++ [⟨((W.take n).map imF).flatMap encK, 51, .own 3⟩, ⟨W.flatMap sC, 9, .own 1⟩]) (H.length + 1) 0 (W.flatMap sC) ⟨W.flatMap sC, 9, .own 1⟩ := by first | exact At.mk0 rfl | exact At.mk' 1 rfl rfl | exact At.mk' 2 rfl rfl | exact At.mk' 3 rfl rfl | exact At.mk' 4 rfl rfl | exact At.mk' 5 rfl rfl | exact At.mk' 6 rfl rfl | exact At.mk' 7 rfl rfl | exact At.mk' 8 rfl rfl | exact At.mk' 9 rfl rfl | exact At.mk' 10 rfl rfl | exact At.mk' 11 rfl rfl | exact At.mk' 12 rfl rfl | exact At.mk' 13 rfl rfl | exact At.mk' 14 rfl rfl | exact At.mk' 15 rfl rfl
    have hz := hat.str hj
    simp only [Nat.zero_add] at hz
    have x8 := h8w _ hwm
    have xl := hlw _ hwm
    obtain ⟨a8, p8⟩ := cutL_8 (c := 58) x8
    obtain ⟨al, pl⟩ := cutL_len 58 W[n]
    obtain ⟨b8, c8⟩ := cutL_8 (c := 44) p8
    obtain ⟨bl, cl⟩ := cutL_len 44 (cutL 58 W[n]).2.1
    have eb := hO2.1 _ hwm
    · skip
      have e1 : (cutL 58 W[n]).2.2 = true ∧ (cutL 44 (cutL 58 W[n]).2.1).2.2 = true ∧ rdOk (cutL 58 W[n]).1 0 200 = true ∧ rdOk (cutL 44 (cutL 58 W[n]).2.1).1 (-24) 24 = true ∧ rdOk (cutL 44 (cutL 58 W[n]).2.1).2.1 (-24) 24 = true := by
        have := eb
        unfold imO at this
        simp only [Bool.and_eq_true] at this
        exact ⟨this.1.1.1.1, this.1.1.1.2, this.1.1.2, this.1.2, this.2⟩
      obtain ⟨o1, o2, o3, o4, o5⟩ := e1
      have pk : (0 ≤ rdV (cutL 58 W[n]).1 ∧ rdV (cutL 58 W[n]).1 ≤ 200) ∧ (-24 ≤ rdV (cutL 44 (cutL 58 W[n]).2.1).1 ∧ rdV (cutL 44 (cutL 58 W[n]).2.1).1 ≤ 24) ∧ (-24 ≤ rdV (cutL 44 (cutL 58 W[n]).2.1).2.1 ∧ rdV (cutL 44 (cutL 58 W[n]).2.1).2.1 ≤ 24) := okK_iff.1 (imO_ok eb)
      have hall : ∀ w ∈ W.take (n + 1), imO w = true := by
        intro w hw2
        rw [List.take_succ_eq_append_getElem hj] at hw2
        rcases List.mem_append.1 hw2 with hw2 | hw2
        · exact hn.2 w hw2
        · rw [List.mem_singleton.1 hw2]; exact eb
      have e3 : ((W.take (n + 1)).map imF).flatMap encK = ((W.take n).map imF).flatMap encK ++ encK (keyF (rdV (cutL 58 W[n]).1) (rdV (cutL 44 (cutL 58 W[n]).2.1).1) (rdV (cutL 44 (cutL 58 W[n]).2.1).2.1)) := by
        rw [map_take' _ _ _ hj, flat_snoc]; rfl
      repeat (first | (simp only [go_sem, Int.reduceLT, Int.reduceLE, Int.reduceEq, Int.reduceToNat, hc, hz, hfl, hfw, bc58, bc44, o1, o2, o3, o4, o5, hn1, hn2, hn3, hd1, hd2, hx, encK_len]) | ((with_reducible refine And.intro ?_ ?_); omega) | ((with_reducible refine isSK ?_); first | (refine call_ret (cutC (by first | exact hp | exact hp.app) (c := 58) (by omega) x8 (by omega)) (by simp only [go_sem, Int.reduceLT, Int.reduceLE, Int.reduceEq, Int.reduceToNat, hc, hz, hfl, hfw, bc58, bc44, o1, o2, o3, o4, o5, hn1, hn2, hn3, hd1, hd2, hx, encK_len]) ?_) | (refine call_ret (cutC (by first | exact hp | exact hp.app) (c := 44) (by omega) p8 (by omega)) (by simp only [go_sem, Int.reduceLT, Int.reduceLE, Int.reduceEq, Int.reduceToNat, hc, hz, hfl, hfw, bc58, bc44, o1, o2, o3, o4, o5, hn1, hn2, hn3, hd1, hd2, hx, encK_len]) ?_) | (refine call_ret (readDec (by first | exact hp | exact hp.app) a8 (by omega) (by omega) (by omega)) (by simp only [go_sem, Int.reduceLT, Int.reduceLE, Int.reduceEq, Int.reduceToNat, hc, hz, hfl, hfw, bc58, bc44, o1, o2, o3, o4, o5, hn1, hn2, hn3, hd1, hd2, hx, encK_len]) ?_) | (refine call_ret (readDec (by first | exact hp | exact hp.app) b8 (by omega) (by omega) (by omega)) (by simp only [go_sem, Int.reduceLT, Int.reduceLE, Int.reduceEq, Int.reduceToNat, hc, hz, hfl, hfw, bc58, bc44, o1, o2, o3, o4, o5, hn1, hn2, hn3, hd1, hd2, hx, encK_len]) ?_) | (refine call_ret (readDec (by first | exact hp | exact hp.app) c8 (by omega) (by omega) (by omega)) (by simp only [go_sem, Int.reduceLT, Int.reduceLE, Int.reduceEq, Int.reduceToNat, hc, hz, hfl, hfw, bc58, bc44, o1, o2, o3, o4, o5, hn1, hn2, hn3, hd1, hd2, hx, encK_len]) ?_) | (refine call_ret (keyAt (by omega) (by omega) (by omega)) (by simp only [go_sem, Int.reduceLT, Int.reduceLE, Int.reduceEq, Int.reduceToNat, hc, hz, hfl, hfw, bc58, bc44, o1, o2, o3, o4, o5, hn1, hn2, hn3, hd1, hd2, hx, encK_len]) ?_)) | ((with_reducible refine isMC ?_); first | (refine mcall_ret (cutC (by first | exact hp | exact hp.app) (c := 58) (by omega) x8 (by omega)) (by simp only [go_sem, Int.reduceLT, Int.reduceLE, Int.reduceEq, Int.reduceToNat, hc, hz, hfl, hfw, bc58, bc44, o1, o2, o3, o4, o5, hn1, hn2, hn3, hd1, hd2, hx, encK_len]) (by simp only [go_sem, Int.reduceLT, Int.reduceLE, Int.reduceEq, Int.reduceToNat, hc, hz, hfl, hfw, bc58, bc44, o1, o2, o3, o4, o5, hn1, hn2, hn3, hd1, hd2, hx, encK_len]) ?_) | (refine mcall_ret (cutC (by first | exact hp | exact hp.app) (c := 44) (by omega) p8 (by omega)) (by simp only [go_sem, Int.reduceLT, Int.reduceLE, Int.reduceEq, Int.reduceToNat, hc, hz, hfl, hfw, bc58, bc44, o1, o2, o3, o4, o5, hn1, hn2, hn3, hd1, hd2, hx, encK_len]) (by simp only [go_sem, Int.reduceLT, Int.reduceLE, Int.reduceEq, Int.reduceToNat, hc, hz, hfl, hfw, bc58, bc44, o1, o2, o3, o4, o5, hn1, hn2, hn3, hd1, hd2, hx, encK_len]) ?_) | (refine mcall_ret (readDec (by first | exact hp | exact hp.app) a8 (by omega) (by omega) (by omega)) (by simp only [go_sem, Int.reduceLT, Int.reduceLE, Int.reduceEq, Int.reduceToNat, hc, hz, hfl, hfw, bc58, bc44, o1, o2, o3, o4, o5, hn1, hn2, hn3, hd1, hd2, hx, encK_len]) (by simp only [go_sem, Int.reduceLT, Int.reduceLE, Int.reduceEq, Int.reduceToNat, hc, hz, hfl, hfw, bc58, bc44, o1, o2, o3, o4, o5, hn1, hn2, hn3, hd1, hd2, hx, encK_len]) ?_) | (refine mcall_ret (readDec (by first | exact hp | exact hp.app) b8 (by omega) (by omega) (by omega)) (by simp only [go_sem, Int.reduceLT, Int.reduceLE, Int.reduceEq, Int.reduceToNat, hc, hz, hfl, hfw, bc58, bc44, o1, o2, o3, o4, o5, hn1, hn2, hn3, hd1, hd2, hx, encK_len]) (by simp only [go_sem, Int.reduceLT, Int.reduceLE, Int.reduceEq, Int.reduceToNat, hc, hz, hfl, hfw, bc58, bc44, o1, o2, o3, o4, o5, hn1, hn2, hn3, hd1, hd2, hx, encK_len]) ?_) | (refine mcall_ret (readDec (by first | exact hp | exact hp.app) c8 (by omega) (by omega) (by omega)) (by simp only [go_sem, Int.reduceLT, Int.reduceLE, Int.reduceEq, Int.reduceToNat, hc, hz, hfl, hfw, bc58, bc44, o1, o2, o3, o4, o5, hn1, hn2, hn3, hd1, hd2, hx, encK_len]) (by simp only [go_sem, Int.reduceLT, Int.reduceLE, Int.reduceEq, Int.reduceToNat, hc, hz, hfl, hfw, bc58, bc44, o1, o2, o3, o4, o5, hn1, hn2, hn3, hd1, hd2, hx, encK_len]) ?_) | (refine mcall_ret (keyAt (by omega) (by omega) (by omega)) (by simp only [go_sem, Int.reduceLT, Int.reduceLE, Int.reduceEq, Int.reduceToNat, hc, hz, hfl, hfw, bc58, bc44, o1, o2, o3, o4, o5, hn1, hn2, hn3, hd1, hd2, hx, encK_len]) (by simp only [go_sem, Int.reduceLT, Int.reduceLE, Int.reduceEq, Int.reduceToNat, hc, hz, hfl, hfw, bc58, bc44, o1, o2, o3, o4, o5, hn1, hn2, hn3, hd1, hd2, hx, encK_len]) ?_)) | ((with_reducible refine And.intro ?_ ?_); first | (with_reducible rfl) | assumption | (simp only [go_sem]; done)))
      refine EK_again (n + 1) ?_ ⟨by omega, hall⟩ (by omega)
      rw [e3]
      exact Weak.keepN rfl (by simp [go_sem] <;> omega) (by simp [hx]) (by simp [go_sem, flat_sC.lts, flat_encK.lts, sC] <;> omega) (hw.app (by simp [go_sem, flat_sC.lts, flat_encK.lts, sC] <;> omega))
  · have : n = W.length := by omega
    subst this
    rw [List.take_length] at hfl hn2 ⊢
    have hK : ∀ a ∈ W.map imF, KyW a := fun a ha => by
      obtain ⟨w, hw2, rfl⟩ := List.mem_map.1 ha
      exact okK_KyW (imO_ok (hO2.1 w hw2))
    have hfew := wds_few (t := t) (fun w hw2 e => by subst e; rw [← hW] at hw2; have := hO2.1 _ hw2; rw [imO_nil] at this; cases this) h0
    rw [← hW] at hfew
    repeat (first | (simp only [go_sem, Int.reduceLT, Int.reduceLE, Int.reduceEq, Int.reduceToNat, Int.not_lt.2 hc, hfl, hfw, hO2.2]) | ((with_reducible refine And.intro ?_ ?_); omega) | ((with_reducible refine isSK ?_); first | (refine call_ret (validTrack (l := W.map imF) (by first | exact h | exact h.app | exact he | exact he.app | exact h2e | exact h2e.app |  exact h2 | exact h2.app | exact Rd.fill0 rfl (by rfl) (by first | rfl | simp | omega) | exact Rd.own0 rfl (by rfl) (by first | rfl | simp | omega) | exact Rd.nil _ _ | exact Rd.nilE (by assumption) | exact Rd.fill 1 rfl (by rfl) (by first | rfl | simp | omega) | exact Rd.own 1 rfl (by rfl) (by first | rfl | simp | omega) | exact Rd.fill 2 rfl (by rfl) (by first | rfl | simp | omega) | exact Rd.own 2 rfl (by rfl) (by first | rfl | simp | omega) | exact Rd.fill 3 rfl (by rfl) (by first | rfl | simp | omega) | exact Rd.own 3 rfl (by rfl) (by first | rfl | simp | omega) | exact Rd.fill 4 rfl (by rfl) (by first | rfl | simp | omega) | exact Rd.own 4 rfl (by rfl) (by first | rfl | simp | omega) | exact Rd.fill 5 rfl (by rfl) (by first | rfl | simp | omega) | exact Rd.own 5 rfl (by rfl) (by first | rfl | simp | omega) | exact Rd.fill 6 rfl (by rfl) (by first | rfl | simp | omega) | exact Rd.own 6 rfl (by rfl) (by first | rfl | simp | omega) | exact Rd.fill 7 rfl (by rfl) (by first | rfl | simp | omega) | exact Rd.own 7 rfl (by rfl) (by first | rfl | simp | omega) | exact Rd.fill 8 rfl (by rfl) (by first | rfl | simp | omega) | exact Rd.own 8 rfl (by rfl) (by first | rfl | simp | omega) | exact Rd.fill 9 rfl (by rfl) (by first | rfl | simp | omega) | exact Rd.own 9 rfl (by rfl) (by first | rfl | simp | omega) | exact Rd.fill 10 rfl (by rfl) (by first | rfl | simp | omega) | exact Rd.own 10 rfl (by rfl) (by first | rfl | simp | omega) | exact Rd.fill 11 rfl (by rfl) (by first | rfl | simp | omega) | exact Rd.own 11 rfl (by rfl) (by first | rfl | simp | omega) | exact Rd.fill 12 rfl (by rfl) (by first | rfl | simp | omega) | exact Rd.own 12 rfl (by rfl) (by first | rfl | simp | omega) | exact Rd.fill 13 rfl (by rfl) (by first | rfl | simp | omega) | exact Rd.own 13 rfl (by rfl) (by first | rfl | simp | omega) | exact Rd.fill 14 rfl (by rfl) (by first | rfl | simp | omega) | exact Rd.own 14 rfl (by rfl) (by first | rfl | simp | omega) | exact Rd.fill 15 rfl (by rfl) (by first | rfl | simp | omega) | exact Rd.own 15 rfl (by rfl) (by first | rfl | simp | omega)) hK (by rw [List.length_map]; omega)) (by simp only [go_sem, Int.reduceLT, Int.reduceLE, Int.reduceEq, Int.reduceToNat, Int.not_lt.2 hc, hfl, hfw, hO2.2]) ?_)) | ((with_reducible refine isMC ?_); first | (refine mcall_ret (validTrack (l := W.map imF) (by first | exact h | exact h.app | exact he | exact he.app | exact h2e | exact h2e.app |  exact h2 | exact h2.app | exact Rd.fill0 rfl (by rfl) (by first | rfl | simp | omega) | exact Rd.own0 rfl (by rfl) (by first | rfl | simp | omega) | exact Rd.nil _ _ | exact Rd.nilE (by assumption) | exact Rd.fill 1 rfl (by rfl) (by first | rfl | simp | omega) | exact Rd.own 1 rfl (by rfl) (by first | rfl | simp | omega) | exact Rd.fill 2 rfl (by rfl) (by first | rfl | simp | omega) | exact Rd.own 2 rfl (by rfl) (by first | rfl | simp | omega) | exact Rd.fill 3 rfl (by rfl) (by first | rfl | simp | omega) | exact Rd.own 3 rfl (by rfl) (by first | rfl | simp | omega) | exact Rd.fill 4 rfl (by rfl) (by first | rfl | simp | omega) | exact Rd.own 4 rfl (by rfl) (by first | rfl | simp | omega) | exact Rd.fill 5 rfl (by rfl) (by first | rfl | simp | omega) | exact Rd.own 5 rfl (by rfl) (by first | rfl | simp | omega) | exact Rd.fill 6 rfl (by rfl) (by first | rfl | simp | omega) | exact Rd.own 6 rfl (by rfl) (by first | rfl | simp | omega) | exact Rd.fill 7 rfl (by rfl) (by first | rfl | simp | omega) | exact Rd.own 7 rfl (by rfl) (by first | rfl | simp | omega) | exact Rd.fill 8 rfl (by rfl) (by first | rfl | simp | omega) | exact Rd.own 8 rfl (by rfl) (by first | rfl | simp | omega) | exact Rd.fill 9 rfl (by rfl) (by first | rfl | simp | omega) | exact Rd.own 9 rfl (by rfl) (by first | rfl | simp | omega) | exact Rd.fill 10 rfl (by rfl) (by first | rfl | simp | omega) | exact Rd.own 10 rfl (by rfl) (by first | rfl | simp | omega) | exact Rd.fill 11 rfl (by rfl) (by first | rfl | simp | omega) | exact Rd.own 11 rfl (by rfl) (by first | rfl | simp | omega) | exact Rd.fill 12 rfl (by rfl) (by first | rfl | simp | omega) | exact Rd.own 12 rfl (by rfl) (by first | rfl | simp | omega) | exact Rd.fill 13 rfl (by rfl) (by first | rfl | simp | omega) | exact Rd.own 13 rfl (by rfl) (by first | rfl | simp | omega) | exact Rd.fill 14 rfl (by rfl) (by first | rfl | simp | omega) | exact Rd.own 14 rfl (by rfl) (by first | rfl | simp | omega) | exact Rd.fill 15 rfl (by rfl) (by first | rfl | simp | omega) | exact Rd.own 15 rfl (by rfl) (by first | rfl | simp | omega)) hK (by rw [List.length_map]; omega)) (by simp only [go_sem, Int.reduceLT, Int.reduceLE, Int.reduceEq, Int.reduceToNat, Int.not_lt.2 hc, hfl, hfw, hO2.2]) (by simp only [go_sem, Int.reduceLT, Int.reduceLE, Int.reduceEq, Int.reduceToNat, Int.not_lt.2 hc, hfl, hfw, hO2.2]) ?_)) | ((with_reducible refine And.intro ?_ ?_); first | (with_reducible rfl) | assumption | (simp only [go_sem]; done)))
    refine ret_one hq hw _ (.inl rfl) 0 rfl (of_eq_true (flat_encK.lts _ _)) (.t [.s H.length 0 (W.map imF).length (.u 0), .v (.int .i64 0)]) (by simp [go_sem]) ?_
    simp [go_sem, conc, concs, upσ, Cap.val, hW]
end Go.Proofs.YtpjimhkblldhaaaDoor

