/- Contracts of functions of the translated program, by the walk. -/
import Derived.Test.YtpjimhkblldhaaaK13
set_option linter.unusedVariables false
set_option linter.unusedSimpArgs false
set_option maxRecDepth 8000
set_option maxHeartbeats 4000000
namespace Go.Proofs.Ytpjimhkblldhaaa
open Go Go.Sx
/-- What ShiftTrack answers. -/
def shFine (t x y : Int) : Bool := inB (-200) 200 t && (inB (-48) 48 x && inB (-48) 48 y)
def shC (l : List (Nat → Int)) (t x y : Int) : Int := if tkOk l = true then (if shFine t x y = true then (if tkOk (shL l t x y) = true then 0 else 3) else 2) else 1
theorem shC_ok {l : List (Nat → Int)} {t x y : Int} (h : shC l t x y = 0) : tkOk l = true ∧ shFine t x y = true ∧ tkOk (shL l t x y) = true := by
  unfold shC at h
  split at h
  · split at h
    · split at h
      · rename_i h1 h2 h3; exact ⟨h1, h2, h3⟩
      · cases h
    · cases h
  · cases h
theorem shL_KyW {l : List (Nat → Int)} {t x y : Int} (hv : tkOk l = true) (hf : shFine t x y = true) : ∀ a ∈ shL l t x y, KyW a := fun a ha => by
  unfold shL at ha
  obtain ⟨k, hk, rfl⟩ := List.mem_map.1 ha
  obtain ⟨j, hj, rfl⟩ := List.mem_iff_getElem.1 hk
  have q := okK_iff.1 (tkOk_at hv hj).1
  unfold shFine at hf
  simp only [Bool.and_eq_true, inB_iff] at hf
  constructor <;> simp only [keyF_0, keyF_1, keyF_2] <;> omega
theorem shL_len (l : List (Nat → Int)) (t x y : Int) : (shL l t x y).length = l.length := by simp [shL]
theorem validTrack2_ok {H : List Blk} {v : V} {l : List (Nat → Int)} (h : Rd H v encK l) (hK : ∀ a ∈ l, KyW a) (hl : l.length ≤ 1000000) (hv : tkOk l = true) :
    Cal Try.prog 42 [v] H fun u H' => u = .t [v, .v (.int .i64 0)] ∧ H' = H := by
  have hsol := h.solid
  refine cal_fn 7 mixed Try.func42 Try.ntmps42 Try.results42 rfl rfl rfl fun hw cx hx hq => ?_
  repeat (first | (simp only [go_sem, Int.reduceLT, Int.reduceLE, Int.reduceEq, Int.reduceToNat, hsol, hv]) | ((with_reducible refine And.intro ?_ ?_); omega) | ((with_reducible refine isSK ?_); first | (refine call_ret (validTrack h hK hl) (by simp only [go_sem, Int.reduceLT, Int.reduceLE, Int.reduceEq, Int.reduceToNat, hsol, hv]) ?_)) | ((with_reducible refine isMC ?_); first | (refine mcall_ret (validTrack h hK hl) (by simp only [go_sem, Int.reduceLT, Int.reduceLE, Int.reduceEq, Int.reduceToNat, hsol, hv]) (by simp only [go_sem, Int.reduceLT, Int.reduceLE, Int.reduceEq, Int.reduceToNat, hsol, hv]) ?_)) | ((with_reducible refine And.intro ?_ ?_); first | (with_reducible rfl) | assumption | (simp only [go_sem]; done)))
  refine ret_same hq _ (.inl rfl) ?_
  simp [go_sem, hsol]
theorem validTrack2_bad {H : List Blk} {v : V} {l : List (Nat → Int)} (h : Rd H v encK l) (hK : ∀ a ∈ l, KyW a) (hl : l.length ≤ 1000000) (hv : tkOk l = false) :
    Cal Try.prog 42 [v] H fun u H' => u = .t [.v (.slice none 0 0), .v (.int .i64 3)] ∧ H' = H := by
  have hsol := h.solid
  refine cal_fn 7 mixed Try.func42 Try.ntmps42 Try.results42 rfl rfl rfl fun hw cx hx hq => ?_
  repeat (first | (simp only [go_sem, Int.reduceLT, Int.reduceLE, Int.reduceEq, Int.reduceToNat, hsol, hv]) | ((with_reducible refine And.intro ?_ ?_); omega) | ((with_reducible refine isSK ?_); first | (refine call_ret (validTrack h hK hl) (by simp only [go_sem, Int.reduceLT, Int.reduceLE, Int.reduceEq, Int.reduceToNat, hsol, hv]) ?_)) | ((with_reducible refine isMC ?_); first | (refine mcall_ret (validTrack h hK hl) (by simp only [go_sem, Int.reduceLT, Int.reduceLE, Int.reduceEq, Int.reduceToNat, hsol, hv]) (by simp only [go_sem, Int.reduceLT, Int.reduceLE, Int.reduceEq, Int.reduceToNat, hsol, hv]) ?_)) | ((with_reducible refine And.intro ?_ ?_); first | (with_reducible rfl) | assumption | (simp only [go_sem]; done)))
  refine ret_same hq _ (.inl rfl) ?_
  simp [go_sem, hsol]
theorem implShiftTrack_err {H : List Blk} {v : V} {l : List (Nat → Int)} {t x y : Int} (h : Rd H v encK l) (hK : ∀ a ∈ l, KyW a) (hl : l.length ≤ 1000000) (hc : shC l t x y ≠ 0) :
    Cal Try.prog 13 [v, .v (.int .i64 t), .v (.int .i64 x), .v (.int .i64 y)] H fun u H' => u = .t [.v (.slice none 0 0), .v (.int .i64 (shC l t x y))] ∧ H' = H := by
  have hsol := h.solid
  have f1 : (decide (-200 ≤ t) && decide (t ≤ 200)) = inB (-200) 200 t := rfl
  have f2 : (decide (-48 ≤ x) && decide (x ≤ 48)) = inB (-48) 48 x := rfl
  have f3 : (decide (-48 ≤ y) && decide (y ≤ 48)) = inB (-48) 48 y := rfl
  refine cal_fn 32 mixed Try.func13 Try.ntmps13 Try.results13 rfl rfl rfl fun hw cx hx hq => ?_
  cases e : tkOk l
  · have hC : shC l t x y = 1 := by unfold shC; rw [e]; rfl
    repeat (first | (simp only [go_sem, Int.reduceLT, Int.reduceLE, Int.reduceEq, Int.reduceToNat, hsol, e]) | ((with_reducible refine And.intro ?_ ?_); omega) | ((with_reducible refine isSK ?_); first | (refine call_ret (validTrack h hK hl) (by simp only [go_sem, Int.reduceLT, Int.reduceLE, Int.reduceEq, Int.reduceToNat, hsol, e]) ?_)) | ((with_reducible refine isMC ?_); first | (refine mcall_ret (validTrack h hK hl) (by simp only [go_sem, Int.reduceLT, Int.reduceLE, Int.reduceEq, Int.reduceToNat, hsol, e]) (by simp only [go_sem, Int.reduceLT, Int.reduceLE, Int.reduceEq, Int.reduceToNat, hsol, e]) ?_)) | ((with_reducible refine And.intro ?_ ?_); first | (with_reducible rfl) | assumption | (simp only [go_sem]; done)))
    refine ret_same hq _ (.inl rfl) ?_
    simp [go_sem, hC]
  cases b1 : inB (-200) 200 t
  · have hC : shC l t x y = 2 := by unfold shC shFine; rw [e, b1]; rfl
    repeat (first | (simp only [go_sem, Int.reduceLT, Int.reduceLE, Int.reduceEq, Int.reduceToNat, hsol, e, f1, f2, f3, b1]) | ((with_reducible refine And.intro ?_ ?_); omega) | ((with_reducible refine isSK ?_); first | (refine call_ret (validTrack h hK hl) (by simp only [go_sem, Int.reduceLT, Int.reduceLE, Int.reduceEq, Int.reduceToNat, hsol, e, f1, f2, f3, b1]) ?_) | (refine call_ret (inRange) (by simp only [go_sem, Int.reduceLT, Int.reduceLE, Int.reduceEq, Int.reduceToNat, hsol, e, f1, f2, f3, b1]) ?_)) | ((with_reducible refine isMC ?_); first | (refine mcall_ret (validTrack h hK hl) (by simp only [go_sem, Int.reduceLT, Int.reduceLE, Int.reduceEq, Int.reduceToNat, hsol, e, f1, f2, f3, b1]) (by simp only [go_sem, Int.reduceLT, Int.reduceLE, Int.reduceEq, Int.reduceToNat, hsol, e, f1, f2, f3, b1]) ?_) | (refine mcall_ret (inRange) (by simp only [go_sem, Int.reduceLT, Int.reduceLE, Int.reduceEq, Int.reduceToNat, hsol, e, f1, f2, f3, b1]) (by simp only [go_sem, Int.reduceLT, Int.reduceLE, Int.reduceEq, Int.reduceToNat, hsol, e, f1, f2, f3, b1]) ?_)) | ((with_reducible refine And.intro ?_ ?_); first | (with_reducible rfl) | assumption | (simp only [go_sem]; done)))
    refine ret_same hq _ (.inl rfl) ?_
    simp [go_sem, hC]
  cases b2 : inB (-48) 48 x
  · have hC : shC l t x y = 2 := by unfold shC shFine; rw [e, b1, b2]; rfl
    repeat (first | (simp only [go_sem, Int.reduceLT, Int.reduceLE, Int.reduceEq, Int.reduceToNat, hsol, e, f1, f2, f3, b1, b2]) | ((with_reducible refine And.intro ?_ ?_); omega) | ((with_reducible refine isSK ?_); first | (refine call_ret (validTrack h hK hl) (by simp only [go_sem, Int.reduceLT, Int.reduceLE, Int.reduceEq, Int.reduceToNat, hsol, e, f1, f2, f3, b1, b2]) ?_) | (refine call_ret (inRange) (by simp only [go_sem, Int.reduceLT, Int.reduceLE, Int.reduceEq, Int.reduceToNat, hsol, e, f1, f2, f3, b1, b2]) ?_)) | ((with_reducible refine isMC ?_); first | (refine mcall_ret (validTrack h hK hl) (by simp only [go_sem, Int.reduceLT, Int.reduceLE, Int.reduceEq, Int.reduceToNat, hsol, e, f1, f2, f3, b1, b2]) (by simp only [go_sem, Int.reduceLT, Int.reduceLE, Int.reduceEq, Int.reduceToNat, hsol, e, f1, f2, f3, b1, b2]) ?_) | (refine mcall_ret (inRange) (by simp only [go_sem, Int.reduceLT, Int.reduceLE, Int.reduceEq, Int.reduceToNat, hsol, e, f1, f2, f3, b1, b2]) (by simp only [go_sem, Int.reduceLT, Int.reduceLE, Int.reduceEq, Int.reduceToNat, hsol, e, f1, f2, f3, b1, b2]) ?_)) | ((with_reducible refine And.intro ?_ ?_); first | (with_reducible rfl) | assumption | (simp only [go_sem]; done)))
    refine ret_same hq _ (.inl rfl) ?_
    simp [go_sem, hC]
  cases b3 : inB (-48) 48 y
  · have hC : shC l t x y = 2 := by unfold shC shFine; rw [e, b1, b2, b3]; rfl
    repeat (first | (simp only [go_sem, Int.reduceLT, Int.reduceLE, Int.reduceEq, Int.reduceToNat, hsol, e, f1, f2, f3, b1, b2, b3]) | ((with_reducible refine And.intro ?_ ?_); omega) | ((with_reducible refine isSK ?_); first | (refine call_ret (validTrack h hK hl) (by simp only [go_sem, Int.reduceLT, Int.reduceLE, Int.reduceEq, Int.reduceToNat, hsol, e, f1, f2, f3, b1, b2, b3]) ?_) | (refine call_ret (inRange) (by simp only [go_sem, Int.reduceLT, Int.reduceLE, Int.reduceEq, Int.reduceToNat, hsol, e, f1, f2, f3, b1, b2, b3]) ?_)) | ((with_reducible refine isMC ?_); first | (refine mcall_ret (validTrack h hK hl) (by simp only [go_sem, Int.reduceLT, Int.reduceLE, Int.reduceEq, Int.reduceToNat, hsol, e, f1, f2, f3, b1, b2, b3]) (by simp only [go_sem, Int.reduceLT, Int.reduceLE, Int.reduceEq, Int.reduceToNat, hsol, e, f1, f2, f3, b1, b2, b3]) ?_) | (refine mcall_ret (inRange) (by simp only [go_sem, Int.reduceLT, Int.reduceLE, Int.reduceEq, Int.reduceToNat, hsol, e, f1, f2, f3, b1, b2, b3]) (by simp only [go_sem, Int.reduceLT, Int.reduceLE, Int.reduceEq, Int.reduceToNat, hsol, e, f1, f2, f3, b1, b2, b3]) ?_)) | ((with_reducible refine And.intro ?_ ?_); first | (with_reducible rfl) | assumption | (simp only [go_sem]; done)))
    refine ret_same hq _ (.inl rfl) ?_
    simp [go_sem, hC]
  have hf : shFine t x y = true := by unfold shFine; rw [b1, b2, b3]; rfl
  have hv2 : tkOk (shL l t x y) = false := by
    cases e2 : tkOk (shL l t x y)
    · rfl
    · exact absurd (by unfold shC; rw [e, hf, e2]; rfl) hc
  have hC : shC l t x y = 3 := by unfold shC; rw [e, hf, hv2]; rfl
  have hlen := tkOk_len e
  have i1 := inB_iff.1 b1
  have i2 := inB_iff.1 b2
  have i3 := inB_iff.1 b3
  have hok : ∀ a ∈ l, okK a = true := fun a ha => by
    obtain ⟨j, hj, rfl⟩ := List.mem_iff_getElem.1 ha
    exact (tkOk_at e hj).1
  repeat (first | (simp only [go_sem, Int.reduceLT, Int.reduceLE, Int.reduceEq, Int.reduceToNat, hsol, e, f1, f2, f3, b1, b2, b3]) | ((with_reducible refine And.intro ?_ ?_); omega) | ((with_reducible refine isSK ?_); first | (refine call_ret (validTrack h hK hl) (by simp only [go_sem, Int.reduceLT, Int.reduceLE, Int.reduceEq, Int.reduceToNat, hsol, e, f1, f2, f3, b1, b2, b3]) ?_) | (refine call_ret (inRange) (by simp only [go_sem, Int.reduceLT, Int.reduceLE, Int.reduceEq, Int.reduceToNat, hsol, e, f1, f2, f3, b1, b2, b3]) ?_) | (refine call_ret (shifted h hok (by omega) i1 i2 i3) (by simp only [go_sem, Int.reduceLT, Int.reduceLE, Int.reduceEq, Int.reduceToNat, hsol, e, f1, f2, f3, b1, b2, b3]) ?_) | (refine call_ret (validTrack2_bad (l := shL l t x y) (Rd.own0 rfl rfl (by simp [shL])) (shL_KyW e hf) (by rw [shL_len]; omega) hv2) (by simp only [go_sem, Int.reduceLT, Int.reduceLE, Int.reduceEq, Int.reduceToNat, hsol, e, f1, f2, f3, b1, b2, b3]) ?_)) | ((with_reducible refine isMC ?_); first | (refine mcall_ret (validTrack h hK hl) (by simp only [go_sem, Int.reduceLT, Int.reduceLE, Int.reduceEq, Int.reduceToNat, hsol, e, f1, f2, f3, b1, b2, b3]) (by simp only [go_sem, Int.reduceLT, Int.reduceLE, Int.reduceEq, Int.reduceToNat, hsol, e, f1, f2, f3, b1, b2, b3]) ?_) | (refine mcall_ret (inRange) (by simp only [go_sem, Int.reduceLT, Int.reduceLE, Int.reduceEq, Int.reduceToNat, hsol, e, f1, f2, f3, b1, b2, b3]) (by simp only [go_sem, Int.reduceLT, Int.reduceLE, Int.reduceEq, Int.reduceToNat, hsol, e, f1, f2, f3, b1, b2, b3]) ?_) | (refine mcall_ret (shifted h hok (by omega) i1 i2 i3) (by simp only [go_sem, Int.reduceLT, Int.reduceLE, Int.reduceEq, Int.reduceToNat, hsol, e, f1, f2, f3, b1, b2, b3]) (by simp only [go_sem, Int.reduceLT, Int.reduceLE, Int.reduceEq, Int.reduceToNat, hsol, e, f1, f2, f3, b1, b2, b3]) ?_) | (refine mcall_ret (validTrack2_bad (l := shL l t x y) (Rd.own0 rfl rfl (by simp [shL])) (shL_KyW e hf) (by rw [shL_len]; omega) hv2) (by simp only [go_sem, Int.reduceLT, Int.reduceLE, Int.reduceEq, Int.reduceToNat, hsol, e, f1, f2, f3, b1, b2, b3]) (by simp only [go_sem, Int.reduceLT, Int.reduceLE, Int.reduceEq, Int.reduceToNat, hsol, e, f1, f2, f3, b1, b2, b3]) ?_)) | ((with_reducible refine And.intro ?_ ?_); first | (with_reducible rfl) | assumption | (simp only [go_sem]; done)))
  refine ret_cut hq hw _ (.inl rfl) ?_
  simp [go_sem, hC]
theorem implShiftTrack_ok {H : List Blk} {v : V} {l : List (Nat → Int)} {t x y : Int} (h : Rd H v encK l) (hK : ∀ a ∈ l, KyW a) (hl : l.length ≤ 1000000) (hc : shC l t x y = 0) :
    Cal Try.prog 13 [v, .v (.int .i64 t), .v (.int .i64 x), .v (.int .i64 y)] H fun u H' => u = .t [.s H.length 0 (shL l t x y).length (.u 0), .v (.int .i64 0)] ∧ H' = H ++ [⟨(shL l t x y).flatMap encK, 55, .own 3⟩] := by
  have hsol := h.solid
  have f1 : (decide (-200 ≤ t) && decide (t ≤ 200)) = inB (-200) 200 t := rfl
  have f2 : (decide (-48 ≤ x) && decide (x ≤ 48)) = inB (-48) 48 x := rfl
  have f3 : (decide (-48 ≤ y) && decide (y ≤ 48)) = inB (-48) 48 y := rfl
  obtain ⟨e, hf, hv2⟩ := shC_ok hc
  have hf0 := hf
  unfold shFine at hf0
  simp only [Bool.and_eq_true] at hf0
  obtain ⟨b1, b2, b3⟩ := hf0
  have hlen := tkOk_len e
  have i1 := inB_iff.1 b1
  have i2 := inB_iff.1 b2
  have i3 := inB_iff.1 b3
  have hok : ∀ a ∈ l, okK a = true := fun a ha => by
    obtain ⟨j, hj, rfl⟩ := List.mem_iff_getElem.1 ha
    exact (tkOk_at e hj).1
  refine cal_fn 32 mixed Try.func13 Try.ntmps13 Try.results13 rfl rfl rfl fun hw cx hx hq => ?_
  repeat (first | (simp only [go_sem, Int.reduceLT, Int.reduceLE, Int.reduceEq, Int.reduceToNat, hsol, e, f1, f2, f3, b1, b2, b3]) | ((with_reducible refine And.intro ?_ ?_); omega) | ((with_reducible refine isSK ?_); first | (refine call_ret (validTrack h hK hl) (by simp only [go_sem, Int.reduceLT, Int.reduceLE, Int.reduceEq, Int.reduceToNat, hsol, e, f1, f2, f3, b1, b2, b3]) ?_) | (refine call_ret (inRange) (by simp only [go_sem, Int.reduceLT, Int.reduceLE, Int.reduceEq, Int.reduceToNat, hsol, e, f1, f2, f3, b1, b2, b3]) ?_) | (refine call_ret (shifted h hok (by omega) i1 i2 i3) (by simp only [go_sem, Int.reduceLT, Int.reduceLE, Int.reduceEq, Int.reduceToNat, hsol, e, f1, f2, f3, b1, b2, b3]) ?_) | (refine call_ret (validTrack2_ok (l := shL l t x y) (Rd.own0 rfl rfl (by simp [shL])) (shL_KyW e hf) (by rw [shL_len]; omega) hv2) (by simp only [go_sem, Int.reduceLT, Int.reduceLE, Int.reduceEq, Int.reduceToNat, hsol, e, f1, f2, f3, b1, b2, b3]) ?_)) | ((with_reducible refine isMC ?_); first | (refine mcall_ret (validTrack h hK hl) (by simp only [go_sem, Int.reduceLT, Int.reduceLE, Int.reduceEq, Int.reduceToNat, hsol, e, f1, f2, f3, b1, b2, b3]) (by simp only [go_sem, Int.reduceLT, Int.reduceLE, Int.reduceEq, Int.reduceToNat, hsol, e, f1, f2, f3, b1, b2, b3]) ?_) | (refine mcall_ret (inRange) (by simp only [go_sem, Int.reduceLT, Int.reduceLE, Int.reduceEq, Int.reduceToNat, hsol, e, f1, f2, f3, b1, b2, b3]) (by simp only [go_sem, Int.reduceLT, Int.reduceLE, Int.reduceEq, Int.reduceToNat, hsol, e, f1, f2, f3, b1, b2, b3]) ?_) | (refine mcall_ret (shifted h hok (by omega) i1 i2 i3) (by simp only [go_sem, Int.reduceLT, Int.reduceLE, Int.reduceEq, Int.reduceToNat, hsol, e, f1, f2, f3, b1, b2, b3]) (by simp only [go_sem, Int.reduceLT, Int.reduceLE, Int.reduceEq, Int.reduceToNat, hsol, e, f1, f2, f3, b1, b2, b3]) ?_) | (refine mcall_ret (validTrack2_ok (l := shL l t x y) (Rd.own0 rfl rfl (by simp [shL])) (shL_KyW e hf) (by rw [shL_len]; omega) hv2) (by simp only [go_sem, Int.reduceLT, Int.reduceLE, Int.reduceEq, Int.reduceToNat, hsol, e, f1, f2, f3, b1, b2, b3]) (by simp only [go_sem, Int.reduceLT, Int.reduceLE, Int.reduceEq, Int.reduceToNat, hsol, e, f1, f2, f3, b1, b2, b3]) ?_)) | ((with_reducible refine And.intro ?_ ?_); first | (with_reducible rfl) | assumption | (simp only [go_sem]; done)))
  refine ret_at hq _ (.inl rfl) (by simp) ?_
  simp [go_sem, shL_len]
/-- The numbers of keys moved in time and place. -/
def shN (l : List (Nat → Int)) (t x y : Int) : List (Nat → Int) := l.map fun a => keyF (a 0 + t) (a 1 + x) (a 2 + y)
theorem shN_md (l : List (Nat → Int)) (t x y : Int) : (shN l t x y).map mdK = shL l t x y := by
  unfold shN shL; rw [List.map_map]; rfl
theorem specShiftTrack_ok {H : List Blk} {v : V} {l : List (Nat → Int)} {t x y : Int} (h : Rd H v encK l) (hK : ∀ a ∈ l, KyW a) (hl : l.length ≤ 1000000) (hc : shC l t x y = 0) :
    Cal Try.prog 11 [v, .v (.int .i64 t), .v (.int .i64 x), .v (.int .i64 y)] H fun u H' => u = .t [.s H.length 0 (shL l t x y).length (.u 0), .v (.int .i64 0)] ∧ H' = H ++ [⟨(shL l t x y).flatMap encK, 55, .own 3⟩] := by
  have hsol := h.solid
  have hL := h.lenV (P := Try.prog) slTy25
  have f0 : (0 : Int) - 48 = -48 := rfl
  have f1 : (decide (-200 ≤ t) && decide (t ≤ 200)) = inB (-200) 200 t := rfl
  have f2 : (decide (-48 ≤ x) && decide (x ≤ 48)) = inB (-48) 48 x := rfl
  have f3 : (decide (-48 ≤ y) && decide (y ≤ 48)) = inB (-48) 48 y := rfl
  obtain ⟨e, hf, hv2⟩ := shC_ok hc
  have hf0 := hf
  unfold shFine at hf0
  simp only [Bool.and_eq_true] at hf0
  obtain ⟨b1, b2, b3⟩ := hf0
  have i1 := inB_iff.1 b1
  have i2 := inB_iff.1 b2
  have i3 := inB_iff.1 b3
  have hp0 : paC l 0 true = 0 := by unfold paC; rw [e]; rfl
  have hmd := shN_md l t x y
  have hsl := shL_len l t x y
  have hsn : (shN l t x y).length = l.length := by simp [shN]
  have hlen := tkOk_len e
  have hok : ∀ a ∈ l, okK a = true := fun a ha => by
    obtain ⟨j, hj, rfl⟩ := List.mem_iff_getElem.1 ha
    exact (tkOk_at e hj).1
  refine cal_fn 67 mixed Try.func11 Try.ntmps11 Try.results11 rfl rfl rfl fun hw cx hx hq => ?_
  repeat (first | (simp only [go_sem, Int.reduceLT, Int.reduceLE, Int.reduceEq, Int.reduceToNat, hsol, f0, f1, f2, f3, b1, b2, b3, hp0]) | ((with_reducible refine And.intro ?_ ?_); omega) | ((with_reducible refine isSK ?_); first | (refine call_ret (l00In) (by simp only [go_sem, Int.reduceLT, Int.reduceLE, Int.reduceEq, Int.reduceToNat, hsol, f0, f1, f2, f3, b1, b2, b3, hp0]) ?_) | (refine call_ret (l03Asked h hK hl) (by simp only [go_sem, Int.reduceLT, Int.reduceLE, Int.reduceEq, Int.reduceToNat, hsol, f0, f1, f2, f3, b1, b2, b3, hp0]) ?_)) | ((with_reducible refine isMC ?_); first | (refine mcall_ret (l00In) (by simp only [go_sem, Int.reduceLT, Int.reduceLE, Int.reduceEq, Int.reduceToNat, hsol, f0, f1, f2, f3, b1, b2, b3, hp0]) (by simp only [go_sem, Int.reduceLT, Int.reduceLE, Int.reduceEq, Int.reduceToNat, hsol, f0, f1, f2, f3, b1, b2, b3, hp0]) ?_) | (refine mcall_ret (l03Asked h hK hl) (by simp only [go_sem, Int.reduceLT, Int.reduceLE, Int.reduceEq, Int.reduceToNat, hsol, f0, f1, f2, f3, b1, b2, b3, hp0]) (by simp only [go_sem, Int.reduceLT, Int.reduceLE, Int.reduceEq, Int.reduceToNat, hsol, f0, f1, f2, f3, b1, b2, b3, hp0]) ?_)) | ((with_reducible refine And.intro ?_ ?_); first | (with_reducible rfl) | assumption | (simp only [go_sem]; done)))
  refine WK_for (fun n : Nat => ⟨[v, .v (.int .i64 t), .v (.int .i64 x), .v (.int .i64 y), .any, .any, .any, .any, .any, .any, .any, .any, .any, .s H.length 0 n (.u 0), .v (.int .i64 n)] ++ junk 56, H ++ [⟨(shN (l.take n) t x y).flatMap (rowL .i64 3), 50, .own 3⟩]⟩) (fun n => n ≤ l.length) (fun n => l.length - n) 0 (Weak.slots ?_) ?_ fun n hn => ?_
  · simp [go_sem, shN]
  · simp
  rcases Int.lt_or_le (n : Int) l.length with hc1 | hc1
  · have hj : n < l.length := by omega
    obtain ⟨i, off, c, b, rfl, hat, hfit⟩ := h.full (by omega)
    have hlt := hat.lt
    have g2 : ∀ L : List Blk, (H ++ L)[i]? = some b := fun L => get_app hat.get
    have pa := hat.elem encK 3 encK_len hj
    have pf := hat.fits encK 3 encK_len hj (by omega)
    have pk := okK_iff.1 (hok _ (List.getElem_mem hj))
    have hn1 : norefH H.length H := norefH_wf hw (Nat.le_refl _)
    have hn2 : norefs H.length ((shN (l.take n) t x y).flatMap (rowL .i64 3)) = true := (flat_rowL .i64 3).norefs _ _
    have hl2 : ((shN (l.take n) t x y).flatMap (rowL .i64 3)).length = n * 3 := by rw [(flat_rowL .i64 3).flen, shN, List.length_map, List.length_take, Nat.min_eq_left (by omega)]
    have hd1 : (H.length + 1 = H.length) = False := eq_false (by omega)
    have hd2 : (i = H.length) = False := eq_false (by omega)
    have hd3 : (H.length + 2 = H.length) = False := eq_false (by omega)
    have q0 : cel (rowL .i64 3 l[n]) 0 = .v (.int .i64 (l[n] 0)) := rfl
    have q1 : cel (rowL .i64 3 l[n]) 1 = .v (.int .i64 (l[n] 1)) := rfl
    have q2 : cel (rowL .i64 3 l[n]) 2 = .v (.int .i64 (l[n] 2)) := rfl
    have wz : ∀ f : Nat → Int, wr [.v (.int .i64 0), .v (.int .i64 0), .v (.int .i64 0)] 0 (rowL .i64 3 f) = rowL .i64 3 f := fun f => rfl
    repeat (first | (simp only [go_sem, Int.reduceLT, Int.reduceLE, Int.reduceEq, Int.reduceToNat, hL, hc1, hat.get, g2, hat.live, hlt, pa, pf, q0, q1, q2, wz, encK_len, hn1, hn2, hl2, hd1, hd2, hd3, hx]) | ((with_reducible refine And.intro ?_ ?_); omega) | ((with_reducible refine isSK ?_); first | (refine call_ret (l03Numbers (okK_KyW (hok _ (List.getElem_mem hj)))) (by simp only [go_sem, Int.reduceLT, Int.reduceLE, Int.reduceEq, Int.reduceToNat, hL, hc1, hat.get, g2, hat.live, hlt, pa, pf, q0, q1, q2, wz, encK_len, hn1, hn2, hl2, hd1, hd2, hd3, hx]) ?_)) | ((with_reducible refine isMC ?_); first | (refine mcall_ret (l03Numbers (okK_KyW (hok _ (List.getElem_mem hj)))) (by simp only [go_sem, Int.reduceLT, Int.reduceLE, Int.reduceEq, Int.reduceToNat, hL, hc1, hat.get, g2, hat.live, hlt, pa, pf, q0, q1, q2, wz, encK_len, hn1, hn2, hl2, hd1, hd2, hd3, hx]) (by simp only [go_sem, Int.reduceLT, Int.reduceLE, Int.reduceEq, Int.reduceToNat, hL, hc1, hat.get, g2, hat.live, hlt, pa, pf, q0, q1, q2, wz, encK_len, hn1, hn2, hl2, hd1, hd2, hd3, hx]) ?_)) | ((with_reducible refine And.intro ?_ ?_); first | (with_reducible rfl) | assumption | (simp only [go_sem]; done)))
    refine EK_again (n + 1) ?_ (by omega) (by omega)
    have e1 : shN (l.take (n + 1)) t x y = shN (l.take n) t x y ++ [keyF (l[n] 0 + t) (l[n] 1 + x) (l[n] 2 + y)] := by unfold shN; rw [map_take' _ _ _ hj]
    have e2 : rowL .i64 3 (keyF (l[n] 0 + t) (l[n] 1 + x) (l[n] 2 + y)) = [.v (.int .i64 (l[n] 0 + t)), .v (.int .i64 (l[n] 1 + x)), .v (.int .i64 (l[n] 2 + y))] := rfl
    rw [e1, flat_snoc, e2]
    exact Weak.keepN rfl (by simp [go_sem] <;> omega) (by simp [hx]) (by simp [go_sem, (flat_rowL .i64 3).lts, hlt] <;> omega) (hw.app (by simp [go_sem, (flat_rowL .i64 3).lts, hlt] <;> omega))
  have hnl : n = l.length := by omega
  subst hnl
  rw [List.take_length]
  repeat (first | (simp only [go_sem, Int.reduceLT, Int.reduceLE, Int.reduceEq, Int.reduceToNat, hL, Int.not_lt.2 hc1]) | ((with_reducible refine And.intro ?_ ?_); omega) | ((with_reducible refine isSK ?_); first | (refine call_ret (l03Made_ok (L := shN l t x y) (Rd.own0 rfl rfl hsn.symm) (by rw [hmd]; exact hv2)) (by simp only [go_sem, Int.reduceLT, Int.reduceLE, Int.reduceEq, Int.reduceToNat, hL, Int.not_lt.2 hc1]) ?_)) | ((with_reducible refine isMC ?_); first | (refine mcall_ret (l03Made_ok (L := shN l t x y) (Rd.own0 rfl rfl hsn.symm) (by rw [hmd]; exact hv2)) (by simp only [go_sem, Int.reduceLT, Int.reduceLE, Int.reduceEq, Int.reduceToNat, hL, Int.not_lt.2 hc1]) (by simp only [go_sem, Int.reduceLT, Int.reduceLE, Int.reduceEq, Int.reduceToNat, hL, Int.not_lt.2 hc1]) ?_)) | ((with_reducible refine And.intro ?_ ?_); first | (with_reducible rfl) | assumption | (simp only [go_sem]; done)))
  refine ret_one hq hw _ (.inl rfl) 1 rfl (of_eq_true (flat_encK.lts _ _)) (.t [.s H.length 0 (shL l t x y).length (.u 0), .v (.int .i64 0)]) (by simp [go_sem]) ?_
  simp [go_sem, conc, concs, upσ, Cap.val, hmd, hsl, hsn]
theorem specShiftTrack_err {H : List Blk} {v : V} {l : List (Nat → Int)} {t x y : Int} (h : Rd H v encK l) (hK : ∀ a ∈ l, KyW a) (hl : l.length ≤ 1000000) (hc : shC l t x y ≠ 0) :
    Cal Try.prog 11 [v, .v (.int .i64 t), .v (.int .i64 x), .v (.int .i64 y)] H fun u H' => u = .t [.s H.length 0 0 (.u 0), .v (.int .i64 (shC l t x y))] ∧ H' = H ++ [⟨[], 55, .own 3⟩] := by
  have hsol := h.solid
  have hL := h.lenV (P := Try.prog) slTy25
  have f0 : (0 : Int) - 48 = -48 := rfl
  have f1 : (decide (-200 ≤ t) && decide (t ≤ 200)) = inB (-200) 200 t := rfl
  have f2 : (decide (-48 ≤ x) && decide (x ≤ 48)) = inB (-48) 48 x := rfl
  have f3 : (decide (-48 ≤ y) && decide (y ≤ 48)) = inB (-48) 48 y := rfl
  refine cal_fn 67 mixed Try.func11 Try.ntmps11 Try.results11 rfl rfl rfl fun hw cx hx hq => ?_
  by_cases hp : tkOk l = true ∧ shFine t x y = true
  case neg =>
    have hC : shC l t x y = paC l 0 (shFine t x y) := by
      unfold shC paC
      cases e : tkOk l
      · rfl
      · cases e2 : shFine t x y
        · rfl
        · exact absurd ⟨e, e2⟩ hp
    have hp0 : (shC l t x y = 0) = False := eq_false hc
    rw [hC] at hp0
    cases b1 : inB (-200) 200 t
    · have hf : shFine t x y = false := by unfold shFine; rw [b1]; rfl
      rw [hf] at hp0 hC
      repeat (first | (simp only [go_sem, Int.reduceLT, Int.reduceLE, Int.reduceEq, Int.reduceToNat, hsol, f0, f1, f2, f3, b1, hp0]) | ((with_reducible refine And.intro ?_ ?_); omega) | ((with_reducible refine isSK ?_); first | (refine call_ret (l00In) (by simp only [go_sem, Int.reduceLT, Int.reduceLE, Int.reduceEq, Int.reduceToNat, hsol, f0, f1, f2, f3, b1, hp0]) ?_) | (refine call_ret (l03Asked h hK hl) (by simp only [go_sem, Int.reduceLT, Int.reduceLE, Int.reduceEq, Int.reduceToNat, hsol, f0, f1, f2, f3, b1, hp0]) ?_)) | ((with_reducible refine isMC ?_); first | (refine mcall_ret (l00In) (by simp only [go_sem, Int.reduceLT, Int.reduceLE, Int.reduceEq, Int.reduceToNat, hsol, f0, f1, f2, f3, b1, hp0]) (by simp only [go_sem, Int.reduceLT, Int.reduceLE, Int.reduceEq, Int.reduceToNat, hsol, f0, f1, f2, f3, b1, hp0]) ?_) | (refine mcall_ret (l03Asked h hK hl) (by simp only [go_sem, Int.reduceLT, Int.reduceLE, Int.reduceEq, Int.reduceToNat, hsol, f0, f1, f2, f3, b1, hp0]) (by simp only [go_sem, Int.reduceLT, Int.reduceLE, Int.reduceEq, Int.reduceToNat, hsol, f0, f1, f2, f3, b1, hp0]) ?_)) | ((with_reducible refine And.intro ?_ ?_); first | (with_reducible rfl) | assumption | (simp only [go_sem]; done)))
      refine ret_at hq _ (.inl rfl) (by simp) ?_
      simp [go_sem, hC]
    cases b2 : inB (-48) 48 x
    · have hf : shFine t x y = false := by unfold shFine; rw [b1, b2]; rfl
      rw [hf] at hp0 hC
      repeat (first | (simp only [go_sem, Int.reduceLT, Int.reduceLE, Int.reduceEq, Int.reduceToNat, hsol, f0, f1, f2, f3, b1, b2, hp0]) | ((with_reducible refine And.intro ?_ ?_); omega) | ((with_reducible refine isSK ?_); first | (refine call_ret (l00In) (by simp only [go_sem, Int.reduceLT, Int.reduceLE, Int.reduceEq, Int.reduceToNat, hsol, f0, f1, f2, f3, b1, b2, hp0]) ?_) | (refine call_ret (l03Asked h hK hl) (by simp only [go_sem, Int.reduceLT, Int.reduceLE, Int.reduceEq, Int.reduceToNat, hsol, f0, f1, f2, f3, b1, b2, hp0]) ?_)) | ((with_reducible refine isMC ?_); first | (refine mcall_ret (l00In) (by simp only [go_sem, Int.reduceLT, Int.reduceLE, Int.reduceEq, Int.reduceToNat, hsol, f0, f1, f2, f3, b1, b2, hp0]) (by simp only [go_sem, Int.reduceLT, Int.reduceLE, Int.reduceEq, Int.reduceToNat, hsol, f0, f1, f2, f3, b1, b2, hp0]) ?_) | (refine mcall_ret (l03Asked h hK hl) (by simp only [go_sem, Int.reduceLT, Int.reduceLE, Int.reduceEq, Int.reduceToNat, hsol, f0, f1, f2, f3, b1, b2, hp0]) (by simp only [go_sem, Int.reduceLT, Int.reduceLE, Int.reduceEq, Int.reduceToNat, hsol, f0, f1, f2, f3, b1, b2, hp0]) ?_)) | ((with_reducible refine And.intro ?_ ?_); first | (with_reducible rfl) | assumption | (simp only [go_sem]; done)))
      refine ret_at hq _ (.inl rfl) (by simp) ?_
      simp [go_sem, hC]
    have hf : shFine t x y = inB (-48) 48 y := by unfold shFine; rw [b1, b2]; rfl
    rw [hf] at hp0 hC
    repeat (first | (simp only [go_sem, Int.reduceLT, Int.reduceLE, Int.reduceEq, Int.reduceToNat, hsol, f0, f1, f2, f3, b1, b2, hp0]) | ((with_reducible refine And.intro ?_ ?_); omega) | ((with_reducible refine isSK ?_); first | (refine call_ret (l00In) (by simp only [go_sem, Int.reduceLT, Int.reduceLE, Int.reduceEq, Int.reduceToNat, hsol, f0, f1, f2, f3, b1, b2, hp0]) ?_) | (refine call_ret (l03Asked h hK hl) (by simp only [go_sem, Int.reduceLT, Int.reduceLE, Int.reduceEq, Int.reduceToNat, hsol, f0, f1, f2, f3, b1, b2, hp0]) ?_)) | ((with_reducible refine isMC ?_); first | (refine mcall_ret (l00In) (by simp only [go_sem, Int.reduceLT, Int.reduceLE, Int.reduceEq, Int.reduceToNat, hsol, f0, f1, f2, f3, b1, b2, hp0]) (by simp only [go_sem, Int.reduceLT, Int.reduceLE, Int.reduceEq, Int.reduceToNat, hsol, f0, f1, f2, f3, b1, b2, hp0]) ?_) | (refine mcall_ret (l03Asked h hK hl) (by simp only [go_sem, Int.reduceLT, Int.reduceLE, Int.reduceEq, Int.reduceToNat, hsol, f0, f1, f2, f3, b1, b2, hp0]) (by simp only [go_sem, Int.reduceLT, Int.reduceLE, Int.reduceEq, Int.reduceToNat, hsol, f0, f1, f2, f3, b1, b2, hp0]) ?_)) | ((with_reducible refine And.intro ?_ ?_); first | (with_reducible rfl) | assumption | (simp only [go_sem]; done)))
    refine ret_at hq _ (.inl rfl) (by simp) ?_
    simp [go_sem, hC]
  obtain ⟨e, hf⟩ := hp
  have hv2 : tkOk (shL l t x y) = false := by
    cases e2 : tkOk (shL l t x y)
    · rfl
    · exact absurd (by unfold shC; rw [e, hf, e2]; rfl) hc
  have hC : shC l t x y = 3 := by unfold shC; rw [e, hf, hv2]; rfl
  have hf0 := hf
  unfold shFine at hf0
  simp only [Bool.and_eq_true] at hf0
  obtain ⟨b1, b2, b3⟩ := hf0
  have i1 := inB_iff.1 b1
  have i2 := inB_iff.1 b2
  have i3 := inB_iff.1 b3
  have hp0 : paC l 0 true = 0 := by unfold paC; rw [e]; rfl
  have hmd := shN_md l t x y
  have hsn : (shN l t x y).length = l.length := by simp [shN]
  have hlen := tkOk_len e
  have hok : ∀ a ∈ l, okK a = true := fun a ha => by
    obtain ⟨j, hj, rfl⟩ := List.mem_iff_getElem.1 ha
    exact (tkOk_at e hj).1
  repeat (first | (simp only [go_sem, Int.reduceLT, Int.reduceLE, Int.reduceEq, Int.reduceToNat, hsol, f0, f1, f2, f3, b1, b2, b3, hp0]) | ((with_reducible refine And.intro ?_ ?_); omega) | ((with_reducible refine isSK ?_); first | (refine call_ret (l00In) (by simp only [go_sem, Int.reduceLT, Int.reduceLE, Int.reduceEq, Int.reduceToNat, hsol, f0, f1, f2, f3, b1, b2, b3, hp0]) ?_) | (refine call_ret (l03Asked h hK hl) (by simp only [go_sem, Int.reduceLT, Int.reduceLE, Int.reduceEq, Int.reduceToNat, hsol, f0, f1, f2, f3, b1, b2, b3, hp0]) ?_)) | ((with_reducible refine isMC ?_); first | (refine mcall_ret (l00In) (by simp only [go_sem, Int.reduceLT, Int.reduceLE, Int.reduceEq, Int.reduceToNat, hsol, f0, f1, f2, f3, b1, b2, b3, hp0]) (by simp only [go_sem, Int.reduceLT, Int.reduceLE, Int.reduceEq, Int.reduceToNat, hsol, f0, f1, f2, f3, b1, b2, b3, hp0]) ?_) | (refine mcall_ret (l03Asked h hK hl) (by simp only [go_sem, Int.reduceLT, Int.reduceLE, Int.reduceEq, Int.reduceToNat, hsol, f0, f1, f2, f3, b1, b2, b3, hp0]) (by simp only [go_sem, Int.reduceLT, Int.reduceLE, Int.reduceEq, Int.reduceToNat, hsol, f0, f1, f2, f3, b1, b2, b3, hp0]) ?_)) | ((with_reducible refine And.intro ?_ ?_); first | (with_reducible rfl) | assumption | (simp only [go_sem]; done)))
  refine WK_for (fun n : Nat => ⟨[v, .v (.int .i64 t), .v (.int .i64 x), .v (.int .i64 y), .any, .any, .any, .any, .any, .any, .any, .any, .any, .s H.length 0 n (.u 0), .v (.int .i64 n)] ++ junk 56, H ++ [⟨(shN (l.take n) t x y).flatMap (rowL .i64 3), 50, .own 3⟩]⟩) (fun n => n ≤ l.length) (fun n => l.length - n) 0 (Weak.slots ?_) ?_ fun n hn => ?_
  · simp [go_sem, shN]
  · simp
  rcases Int.lt_or_le (n : Int) l.length with hc1 | hc1
  · have hj : n < l.length := by omega
    obtain ⟨i, off, c, b, rfl, hat, hfit⟩ := h.full (by omega)
    have hlt := hat.lt
    have g2 : ∀ L : List Blk, (H ++ L)[i]? = some b := fun L => get_app hat.get
    have pa := hat.elem encK 3 encK_len hj
    have pf := hat.fits encK 3 encK_len hj (by omega)
    have pk := okK_iff.1 (hok _ (List.getElem_mem hj))
    have hn1 : norefH H.length H := norefH_wf hw (Nat.le_refl _)
    have hn2 : norefs H.length ((shN (l.take n) t x y).flatMap (rowL .i64 3)) = true := (flat_rowL .i64 3).norefs _ _
    have hl2 : ((shN (l.take n) t x y).flatMap (rowL .i64 3)).length = n * 3 := by rw [(flat_rowL .i64 3).flen, shN, List.length_map, List.length_take, Nat.min_eq_left (by omega)]
    have hd1 : (H.length + 1 = H.length) = False := eq_false (by omega)
    have hd2 : (i = H.length) = False := eq_false (by omega)
    have hd3 : (H.length + 2 = H.length) = False := eq_false (by omega)
    have q0 : cel (rowL .i64 3 l[n]) 0 = .v (.int .i64 (l[n] 0)) := rfl
    have q1 : cel (rowL .i64 3 l[n]) 1 = .v (.int .i64 (l[n] 1)) := rfl
    have q2 : cel (rowL .i64 3 l[n]) 2 = .v (.int .i64 (l[n] 2)) := rfl
    have wz : ∀ f : Nat → Int, wr [.v (.int .i64 0), .v (.int .i64 0), .v (.int .i64 0)] 0 (rowL .i64 3 f) = rowL .i64 3 f := fun f => rfl
    repeat (first | (simp only [go_sem, Int.reduceLT, Int.reduceLE, Int.reduceEq, Int.reduceToNat, hL, hc1, hat.get, g2, hat.live, hlt, pa, pf, q0, q1, q2, wz, encK_len, hn1, hn2, hl2, hd1, hd2, hd3, hx]) | ((with_reducible refine And.intro ?_ ?_); omega) | ((with_reducible refine isSK ?_); first | (refine call_ret (l03Numbers (okK_KyW (hok _ (List.getElem_mem hj)))) (by simp only [go_sem, Int.reduceLT, Int.reduceLE, Int.reduceEq, Int.reduceToNat, hL, hc1, hat.get, g2, hat.live, hlt, pa, pf, q0, q1, q2, wz, encK_len, hn1, hn2, hl2, hd1, hd2, hd3, hx]) ?_)) | ((with_reducible refine isMC ?_); first | (refine mcall_ret (l03Numbers (okK_KyW (hok _ (List.getElem_mem hj)))) (by simp only [go_sem, Int.reduceLT, Int.reduceLE, Int.reduceEq, Int.reduceToNat, hL, hc1, hat.get, g2, hat.live, hlt, pa, pf, q0, q1, q2, wz, encK_len, hn1, hn2, hl2, hd1, hd2, hd3, hx]) (by simp only [go_sem, Int.reduceLT, Int.reduceLE, Int.reduceEq, Int.reduceToNat, hL, hc1, hat.get, g2, hat.live, hlt, pa, pf, q0, q1, q2, wz, encK_len, hn1, hn2, hl2, hd1, hd2, hd3, hx]) ?_)) | ((with_reducible refine And.intro ?_ ?_); first | (with_reducible rfl) | assumption | (simp only [go_sem]; done)))
    refine EK_again (n + 1) ?_ (by omega) (by omega)
    have e1 : shN (l.take (n + 1)) t x y = shN (l.take n) t x y ++ [keyF (l[n] 0 + t) (l[n] 1 + x) (l[n] 2 + y)] := by unfold shN; rw [map_take' _ _ _ hj]
    have e2 : rowL .i64 3 (keyF (l[n] 0 + t) (l[n] 1 + x) (l[n] 2 + y)) = [.v (.int .i64 (l[n] 0 + t)), .v (.int .i64 (l[n] 1 + x)), .v (.int .i64 (l[n] 2 + y))] := rfl
    rw [e1, flat_snoc, e2]
    exact Weak.keepN rfl (by simp [go_sem] <;> omega) (by simp [hx]) (by simp [go_sem, (flat_rowL .i64 3).lts, hlt] <;> omega) (hw.app (by simp [go_sem, (flat_rowL .i64 3).lts, hlt] <;> omega))
  have hnl : n = l.length := by omega
  subst hnl
  rw [List.take_length]
  repeat (first | (simp only [go_sem, Int.reduceLT, Int.reduceLE, Int.reduceEq, Int.reduceToNat, hL, Int.not_lt.2 hc1]) | ((with_reducible refine And.intro ?_ ?_); omega) | ((with_reducible refine isSK ?_); first | (refine call_ret (l03Made_bad (L := shN l t x y) (Rd.own0 rfl rfl hsn.symm) (by omega) (by rw [hmd]; exact hv2)) (by simp only [go_sem, Int.reduceLT, Int.reduceLE, Int.reduceEq, Int.reduceToNat, hL, Int.not_lt.2 hc1]) ?_)) | ((with_reducible refine isMC ?_); first | (refine mcall_ret (l03Made_bad (L := shN l t x y) (Rd.own0 rfl rfl hsn.symm) (by omega) (by rw [hmd]; exact hv2)) (by simp only [go_sem, Int.reduceLT, Int.reduceLE, Int.reduceEq, Int.reduceToNat, hL, Int.not_lt.2 hc1]) (by simp only [go_sem, Int.reduceLT, Int.reduceLE, Int.reduceEq, Int.reduceToNat, hL, Int.not_lt.2 hc1]) ?_)) | ((with_reducible refine And.intro ?_ ?_); first | (with_reducible rfl) | assumption | (simp only [go_sem]; done)))
  refine ret_one hq hw _ (.inl rfl) 1 rfl (by simp [go_sem]) (.t [.s H.length 0 0 (.u 0), .v (.int .i64 3)]) (by simp [go_sem]) ?_
  simp [go_sem, conc, concs, upσ, Cap.val, hC]
end Go.Proofs.Ytpjimhkblldhaaa

