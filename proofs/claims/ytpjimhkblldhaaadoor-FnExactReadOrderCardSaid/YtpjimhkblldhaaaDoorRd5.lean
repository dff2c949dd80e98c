/- Contracts of functions of the translated program, by the walk. -/
import Derived.Test.YtpjimhkblldhaaaDoorRd4
set_option linter.unusedVariables false
set_option linter.unusedSimpArgs false
set_option maxRecDepth 8000
set_option maxHeartbeats 4000000
namespace Go.Proofs.YtpjimhkblldhaaaDoor
open Go Go.Sx
/-- The words of a text: none of the empty one. -/
def wds (t : List Int) : List (List Int) := if t = [] then [] else spl 32 t
theorem wds_8 {t : List Int} (h : B8 t) : ∀ w ∈ wds t, B8 w := by
  unfold wds; split
  · intro w hw; cases hw
  · exact spl_8 h
theorem wds_wlen (t : List Int) : ∀ w ∈ wds t, w.length ≤ t.length := by
  unfold wds; split
  · intro w hw; cases hw
  · exact spl_wlen 32 t
theorem wds_len (t : List Int) : (wds t).length ≤ t.length + 1 := by
  unfold wds; split
  · simp
  · exact spl_len_le 32 t []
/-- A word that is a number below forty. -/
def wB (w : List Int) : Bool := match numN w with
  | some n => decide (n < 40)
  | none => false
def wV (w : List Int) : Int := (((numN w).getD 0 : Nat) : Int)
theorem wB_iff {w : List Int} : wB w = true ↔ ∃ k : Nat, k < 40 ∧ w = decT k := by
  unfold wB
  constructor
  · intro h
    cases e : numN w with
    | none => rw [e] at h; cases h
    | some n =>
      rw [e] at h
      have hn := of_decide_eq_true h
      exact ⟨n, hn, (numN_iff (by omega)).1 e⟩
  · rintro ⟨k, hk, e⟩
    rw [(numN_iff (by omega)).2 e]
    exact decide_eq_true hk
theorem wV_dec {k : Nat} (hk : k < 40) : wV (decT k) = k := by
  unfold wV; rw [(numN_iff (t := decT k) (n := k) (by omega)).2 rfl]; rfl
theorem rd_wB (w : List Int) : rdOk w 0 39 = wB w := by
  rw [Bool.eq_iff_iff, wB_iff]
  constructor
  · intro h
    have := rd_is h
    obtain ⟨k, hk⟩ := Int.eq_ofNat_of_zero_le this.1
    refine ⟨k, by omega, ?_⟩
    have h3 := this.2.2
    rw [hk, decI_nat] at h3
    exact h3
  · rintro ⟨k, hk, rfl⟩
    rw [← decI_nat]
    exact (rd_dec (by omega) (by omega) (by omega) (by omega)).1
theorem rd_wV {w : List Int} (h : wB w = true) : rdV w = wV w := by
  obtain ⟨k, hk, rfl⟩ := wB_iff.1 h
  rw [wV_dec hk, ← decI_nat]
  exact (rd_dec (lo := 0) (hi := 39) (by omega) (by omega) (by omega) (by omega)).2
/-- What ReadOrder reads. -/
def roOk (t : List Int) : Bool := decide ((wds t).length ≤ 40) && (wds t).all wB
def roV (t : List Int) : List Int := if roOk t = true then (wds t).map wV else []
def roC (t : List Int) : Int := if roOk t = true then 0 else 5
theorem wordsNil {H : List Blk} : Cal Tryd.prog 39 [.v (.string (bstr []))] H fun u H' => u = .v (.slice none 0 0) ∧ H' = H := by
  refine cal_fn 6 mixed Tryd.func39 Tryd.ntmps39 Tryd.results39 rfl rfl rfl fun hw cx hx hq => ?_
  repeat (first | (simp only [go_sem, Int.reduceLT, Int.reduceLE, Int.reduceEq, Int.reduceToNat, bs0]) | ((with_reducible refine And.intro ?_ ?_); omega) | ((with_reducible refine And.intro ?_ ?_); first | (with_reducible rfl) | assumption | (simp only [go_sem]; done)))
  refine ret_same hq _ (.inl rfl) ?_
  simp [go_sem]
theorem wordsC {H : List Blk} (hp : PinR H) {t : List Int} (h8 : B8 t) (hl : t.length ≤ 1000000) (h0 : t ≠ []) :
    Cal Tryd.prog 39 [.v (.string (bstr t))] H fun u H' => u = .s H.length 0 (wds t).length (.u 0) ∧ H' = H ++ [⟨(wds t).flatMap sC, 9, .own 1⟩] := by
  have hn0 : ((bstr t).toList = (bstr []).toList) = False := eq_false (by rw [bstr_toL, bstr_toL]; intro h; exact h0 (u8L_inj h8 (fun x hx => by cases hx) h))
  have ew : wds t = spl 32 t := if_neg h0
  rw [ew]
  refine cal_fn 6 mixed Tryd.func39 Tryd.ntmps39 Tryd.results39 rfl rfl rfl fun hw cx hx hq => ?_
  repeat (first | (simp only [go_sem, Int.reduceLT, Int.reduceLE, Int.reduceEq, Int.reduceToNat, bs0, bs32, hn0]) | ((with_reducible refine And.intro ?_ ?_); omega) | ((with_reducible refine isSK ?_); first | (refine call_ret (splitC (by first | exact hp | exact hp.app) h8 hl) (by simp only [go_sem, Int.reduceLT, Int.reduceLE, Int.reduceEq, Int.reduceToNat, bs0, bs32, hn0]) ?_)) | ((with_reducible refine isMC ?_); first | (refine mcall_ret (splitC (by first | exact hp | exact hp.app) h8 hl) (by simp only [go_sem, Int.reduceLT, Int.reduceLE, Int.reduceEq, Int.reduceToNat, bs0, bs32, hn0]) (by simp only [go_sem, Int.reduceLT, Int.reduceLE, Int.reduceEq, Int.reduceToNat, bs0, bs32, hn0]) ?_)) | ((with_reducible refine And.intro ?_ ?_); first | (with_reducible rfl) | assumption | (simp only [go_sem]; done)))
  refine ret_at hq _ (.inl rfl) (by simp) ?_
  simp [go_sem]
theorem map_i64 (l : List (List Int)) (n : Nat) (h : n < l.length) : ((l.take (n + 1)).map wV).flatMap i64C = ((l.take n).map wV).flatMap i64C ++ [.v (.int .i64 (wV l[n]))] := by
  rw [List.take_succ_eq_append_getElem h, List.map_append, List.flatMap_append]; rfl
theorem specReadOrder {H : List Blk} {t : List Int} (h8 : B8 t) (hl : t.length ≤ 1000000) :
    Cal Tryd.prog 16 [.v (.string (bstr t))] H fun u H' => u = .t [.s H.length 0 (roV t).length (.u 0), .v (.int .i64 (roC t))] ∧ H' = H ++ [⟨(roV t).flatMap i64C, 2, .own 1⟩] := by
  by_cases h0 : t = []
  · have e1 : ((bstr t).toList = (bstr []).toList) = True := eq_true (by rw [h0])
    have eO : roOk t = true := by unfold roOk wds; rw [if_pos h0]; rfl
    have eV : roV t = [] := by unfold roV wds; rw [if_pos eO, if_pos h0]; rfl
    have eC : roC t = 0 := if_pos eO
    rw [eV, eC]
    refine cal_fn 44 mixed Tryd.func16 Tryd.ntmps16 Tryd.results16 rfl rfl rfl fun hw cx hx hq => ?_
    repeat (first | (simp only [go_sem, Int.reduceLT, Int.reduceLE, Int.reduceEq, Int.reduceToNat, bs0, e1]) | ((with_reducible refine And.intro ?_ ?_); omega) | ((with_reducible refine And.intro ?_ ?_); first | (with_reducible rfl) | assumption | (simp only [go_sem]; done)))
    refine ret_at hq _ (.inl rfl) (by simp) ?_
    simp [go_sem]
  have hn0 : ((bstr t).toList = (bstr []).toList) = False := eq_false (by rw [bstr_toL, bstr_toL]; intro h; exact h0 (u8L_inj h8 (fun x hx => by cases hx) h))
  have ew : wds t = spl 32 t := if_neg h0
  have hwl := wds_len t
  by_cases h40 : 40 < (wds t).length
  · have eO : roOk t = false := by unfold roOk; rw [decide_eq_false (by omega)]; rfl
    have eV : roV t = [] := if_neg (by rw [eO]; decide)
    have eC : roC t = 5 := if_neg (by rw [eO]; decide)
    rw [ew] at h40
    have e1 : ((40 : Int) < ((spl 32 t).length : Int)) = True := eq_true (by omega)
    rw [eV, eC]
    refine cal_fn 44 mixed Tryd.func16 Tryd.ntmps16 Tryd.results16 rfl rfl rfl fun hw cx hx hq => ?_
    repeat (first | (simp only [go_sem, Int.reduceLT, Int.reduceLE, Int.reduceEq, Int.reduceToNat, bs0, hn0, e1]) | ((with_reducible refine And.intro ?_ ?_); omega) | ((with_reducible refine isSK ?_); first | (refine call_ret (l01Split h8 hl) (by simp only [go_sem, Int.reduceLT, Int.reduceLE, Int.reduceEq, Int.reduceToNat, bs0, hn0, e1]) ?_)) | ((with_reducible refine isMC ?_); first | (refine mcall_ret (l01Split h8 hl) (by simp only [go_sem, Int.reduceLT, Int.reduceLE, Int.reduceEq, Int.reduceToNat, bs0, hn0, e1]) (by simp only [go_sem, Int.reduceLT, Int.reduceLE, Int.reduceEq, Int.reduceToNat, bs0, hn0, e1]) ?_)) | ((with_reducible refine And.intro ?_ ?_); first | (with_reducible rfl) | assumption | (simp only [go_sem]; done)))
    refine ret_one hq hw _ (.inl rfl) 2 rfl (by simp [go_sem]) (.t [.s H.length 0 0 (.u 0), .v (.int .i64 5)]) (by simp [go_sem]) ?_
    simp [go_sem, conc, concs, upσ, Cap.val]
  have e40 : ((40 : Int) < ((wds t).length : Int)) = False := eq_false (by omega)
  have h8w := wds_8 h8
  have hlw := wds_wlen t
  have eO : roOk t = (wds t).all wB := by unfold roOk; rw [decide_eq_true (by omega)]; rfl
  obtain ⟨W, hWs⟩ : ∃ W, W = spl 32 t := ⟨_, rfl⟩
  have hW : wds t = W := by rw [ew, hWs]
  rw [hW] at e40 h8w hlw eO hwl h40
  refine cal_fn 44 mixed Tryd.func16 Tryd.ntmps16 Tryd.results16 rfl rfl rfl fun hw cx hx hq => ?_
  repeat (first | (simp only [go_sem, Int.reduceLT, Int.reduceLE, Int.reduceEq, Int.reduceToNat, bs0, hn0, ← hWs, e40]) | ((with_reducible refine And.intro ?_ ?_); omega) | ((with_reducible refine isSK ?_); first | (refine call_ret (l01Split h8 hl) (by simp only [go_sem, Int.reduceLT, Int.reduceLE, Int.reduceEq, Int.reduceToNat, bs0, hn0, ← hWs, e40]) ?_)) | ((with_reducible refine isMC ?_); first | (refine mcall_ret (l01Split h8 hl) (by simp only [go_sem, Int.reduceLT, Int.reduceLE, Int.reduceEq, Int.reduceToNat, bs0, hn0, ← hWs, e40]) (by simp only [go_sem, Int.reduceLT, Int.reduceLE, Int.reduceEq, Int.reduceToNat, bs0, hn0, ← hWs, e40]) ?_)) | ((with_reducible refine And.intro ?_ ?_); first | (with_reducible rfl) | assumption | (simp only [go_sem]; done)))
  have hn1 : norefH H.length H := norefH_wf hw (Nat.le_refl _)
  refine WK_for (fun n : Nat => ⟨[.any, .any, .any, .any, .s H.length 0 n (.u 0), .s (H.length + 1) 0 W.length (.u 0), .v (.int .i64 n)] ++ junk 38, H ++ [⟨((W.take n).map wV).flatMap i64C, 2, .own 1⟩, ⟨W.flatMap sC, 9, .own 1⟩]⟩) (fun n => n ≤ W.length ∧ ∀ w ∈ W.take n, wB w = true) (fun n => W.length - n) 0 (Weak.slots ?_) ?_ fun n hn => ?_
  · simp [go_sem]
  · simp
  have hfl : (((W.take n).map wV).flatMap i64C).length = n := by rw [flat_i64.flen, Nat.mul_one, List.length_map, List.length_take]; omega
  have hfw : (W.flatMap sC).length = W.length := by rw [flat_sC.flen, Nat.mul_one]
  have hn2 : norefs H.length (((W.take n).map wV).flatMap i64C) = true := flat_i64.norefs _ _
  have hn3 : norefs H.length (W.flatMap sC) = true := flat_sC.norefs _ _
  have hd1 : (H.length + 1 = H.length) = False := eq_false (by omega)
  have hd2 : (H.length = H.length + 1) = False := eq_false (by omega)
  rcases Int.lt_or_le (n : Int) W.length with hc | hc
  · have hj : n < W.length := by omega
    have hwm := List.getElem_mem hj
    have hat : At (H ++ [⟨((W.take n).map wV).flatMap i64C, 2, .own 1⟩, ⟨W.flatMap sC, 9, .own 1⟩]) (H.length + 1) 0 (W.flatMap sC) ⟨W.flatMap sC, 9, .own 1⟩ := by first | exact At.mk0 rfl | exact At.mk' 1 rfl rfl | exact At.mk' 2 rfl rfl | exact At.mk' 3 rfl rfl | exact At.mk' 4 rfl rfl | exact At.mk' 5 rfl rfl | exact At.mk' 6 rfl rfl | exact At.mk' 7 rfl rfl | exact At.mk' 8 rfl rfl | exact At.mk' 9 rfl rfl | exact At.mk' 10 rfl rfl | exact At.mk' 11 rfl rfl | exact At.mk' 12 rfl rfl | exact At.mk' 13 rfl rfl | exact At.mk' 14 rfl rfl | exact At.mk' 15 rfl rfl
    have hz := hat.str hj
    have hwN : wV W[n] = (((numN W[n]).getD 0 : Nat) : Int) := rfl
    simp only [Nat.zero_add] at hz
    cases eb : wB W[n]
    · have eA : W.all wB = false := by rw [List.all_eq_false]; exact ⟨_, hwm, by rw [eb]; decide⟩
      have eV : roV t = [] := if_neg (by rw [eO, eA]; decide)
      have eC : roC t = 5 := if_neg (by rw [eO, eA]; decide)
      unfold wB at eb
      cases en : numN W[n] with
      | none =>
        repeat (first | (simp only [go_sem, Int.reduceLT, Int.reduceLE, Int.reduceEq, Int.reduceToNat, hc, hz, hfl, hfw, en, Option.isSome_none, Option.getD_none]) | ((with_reducible refine And.intro ?_ ?_); omega) | ((with_reducible refine isSK ?_); first | (refine call_ret (l01Number (h8w _ hwm) (Nat.le_trans (hlw _ hwm) hl)) (by simp only [go_sem, Int.reduceLT, Int.reduceLE, Int.reduceEq, Int.reduceToNat, hc, hz, hfl, hfw, en, Option.isSome_none, Option.getD_none]) ?_)) | ((with_reducible refine isMC ?_); first | (refine mcall_ret (l01Number (h8w _ hwm) (Nat.le_trans (hlw _ hwm) hl)) (by simp only [go_sem, Int.reduceLT, Int.reduceLE, Int.reduceEq, Int.reduceToNat, hc, hz, hfl, hfw, en, Option.isSome_none, Option.getD_none]) (by simp only [go_sem, Int.reduceLT, Int.reduceLE, Int.reduceEq, Int.reduceToNat, hc, hz, hfl, hfw, en, Option.isSome_none, Option.getD_none]) ?_)) | ((with_reducible refine And.intro ?_ ?_); first | (with_reducible rfl) | assumption | (simp only [go_sem]; done)))
        refine ret_one hq hw _ (.inl rfl) 2 rfl (by simp [go_sem]) (.t [.s H.length 0 0 (.u 0), .v (.int .i64 5)]) (by simp [go_sem]) ?_
        simp [go_sem, conc, concs, upσ, Cap.val, eV, eC]
      | some k =>
        rw [en] at eb
        have e3 : ((40 : Int) ≤ (k : Int)) = True := eq_true (by have := of_decide_eq_false eb; omega)
        repeat (first | (simp only [go_sem, Int.reduceLT, Int.reduceLE, Int.reduceEq, Int.reduceToNat, hc, hz, hfl, hfw, en, e3, Option.isSome_some, Option.getD_some]) | ((with_reducible refine And.intro ?_ ?_); omega) | ((with_reducible refine isSK ?_); first | (refine call_ret (l01Number (h8w _ hwm) (Nat.le_trans (hlw _ hwm) hl)) (by simp only [go_sem, Int.reduceLT, Int.reduceLE, Int.reduceEq, Int.reduceToNat, hc, hz, hfl, hfw, en, e3, Option.isSome_some, Option.getD_some]) ?_)) | ((with_reducible refine isMC ?_); first | (refine mcall_ret (l01Number (h8w _ hwm) (Nat.le_trans (hlw _ hwm) hl)) (by simp only [go_sem, Int.reduceLT, Int.reduceLE, Int.reduceEq, Int.reduceToNat, hc, hz, hfl, hfw, en, e3, Option.isSome_some, Option.getD_some]) (by simp only [go_sem, Int.reduceLT, Int.reduceLE, Int.reduceEq, Int.reduceToNat, hc, hz, hfl, hfw, en, e3, Option.isSome_some, Option.getD_some]) ?_)) | ((with_reducible refine And.intro ?_ ?_); first | (with_reducible rfl) | assumption | (simp only [go_sem]; done)))
        refine ret_one hq hw _ (.inl rfl) 2 rfl (by simp [go_sem]) (.t [.s H.length 0 0 (.u 0), .v (.int .i64 5)]) (by simp [go_sem]) ?_
        simp [go_sem, conc, concs, upσ, Cap.val, eV, eC]
    · have hall : ∀ w ∈ W.take (n + 1), wB w = true := by
        intro w hw2
        rw [List.take_succ_eq_append_getElem hj] at hw2
        rcases List.mem_append.1 hw2 with hw2 | hw2
        · exact hn.2 w hw2
        · rw [List.mem_singleton.1 hw2]; exact eb
      have e3 := map_i64 W n hj
      unfold wB at eb
      cases en : numN W[n] with
      | none => rw [en] at eb; cases eb
      | some k =>
        rw [en] at eb
        rw [hwN, en, Option.getD_some] at e3
        have e4 : ((40 : Int) ≤ (k : Int)) = False := eq_false (by have := of_decide_eq_true eb; omega)
        repeat (first | (simp only [go_sem, Int.reduceLT, Int.reduceLE, Int.reduceEq, Int.reduceToNat, hc, hz, hfl, hfw, en, e4, hn1, hn2, hn3, hd1, hd2, hx, Option.isSome_some, Option.getD_some]) | ((with_reducible refine And.intro ?_ ?_); omega) | ((with_reducible refine isSK ?_); first | (refine call_ret (l01Number (h8w _ hwm) (Nat.le_trans (hlw _ hwm) hl)) (by simp only [go_sem, Int.reduceLT, Int.reduceLE, Int.reduceEq, Int.reduceToNat, hc, hz, hfl, hfw, en, e4, hn1, hn2, hn3, hd1, hd2, hx, Option.isSome_some, Option.getD_some]) ?_)) | ((with_reducible refine isMC ?_); first | (refine mcall_ret (l01Number (h8w _ hwm) (Nat.le_trans (hlw _ hwm) hl)) (by simp only [go_sem, Int.reduceLT, Int.reduceLE, Int.reduceEq, Int.reduceToNat, hc, hz, hfl, hfw, en, e4, hn1, hn2, hn3, hd1, hd2, hx, Option.isSome_some, Option.getD_some]) (by simp only [go_sem, Int.reduceLT, Int.reduceLE, Int.reduceEq, Int.reduceToNat, hc, hz, hfl, hfw, en, e4, hn1, hn2, hn3, hd1, hd2, hx, Option.isSome_some, Option.getD_some]) ?_)) | ((with_reducible refine And.intro ?_ ?_); first | (with_reducible rfl) | assumption | (simp only [go_sem]; done)))
        refine EK_again (n + 1) ?_ ⟨by omega, hall⟩ (by omega)
        rw [e3]
        exact Weak.keepN rfl (by simp [go_sem] <;> omega) (by simp [hx]) (by simp [go_sem, flat_sC.lts, flat_i64.lts, sC] <;> omega) (hw.app (by simp [go_sem, flat_sC.lts, flat_i64.lts, sC] <;> omega))
  · have : n = W.length := by omega
    subst this
    have hall := hn.2
    rw [List.take_length] at hall hfl hn2 ⊢
    have eA : W.all wB = true := List.all_eq_true.2 hall
    have eV : roV t = W.map wV := by unfold roV; rw [if_pos (by rw [eO, eA]), hW]
    have eC : roC t = 0 := if_pos (by rw [eO, eA])
    repeat (first | (simp only [go_sem, Int.reduceLT, Int.reduceLE, Int.reduceEq, Int.reduceToNat, Int.not_lt.2 hc, hfl, hfw]) | ((with_reducible refine And.intro ?_ ?_); omega) | ((with_reducible refine And.intro ?_ ?_); first | (with_reducible rfl) | assumption | (simp only [go_sem]; done)))
    refine ret_one hq hw _ (.inl rfl) 0 rfl (of_eq_true (flat_i64.lts _ _)) (.t [.s H.length 0 (W.map wV).length (.u 0), .v (.int .i64 0)]) (by simp [go_sem]) ?_
    simp [go_sem, conc, concs, upσ, Cap.val, eV, eC]
end Go.Proofs.YtpjimhkblldhaaaDoor

