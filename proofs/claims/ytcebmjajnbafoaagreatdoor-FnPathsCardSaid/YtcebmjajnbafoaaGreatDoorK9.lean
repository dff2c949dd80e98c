/- Contracts of functions of the translated program, by the walk. -/
import Derived.Test.YtcebmjajnbafoaaGreatDoorK6
import Derived.Test.YtcebmjajnbafoaaGreatDoorT1
import Derived.Test.YtcebmjajnbafoaaGreatDoorLD
set_option linter.unusedVariables false
set_option linter.unusedSimpArgs false
set_option maxRecDepth 8000
set_option maxHeartbeats 16000000
namespace Go.Proofs.YtcebmjajnbafoaaGreatDoor
open Go Go.Sx
/-- The code for a track, an ease, and whether the rest is fine. -/
def paC (l : List (Nat → Int)) (e : Int) (fine : Bool) : Int := if tkOk l = true then (if (inB 0 3 e && fine) = true then 0 else 2) else 1
theorem paC_ok {l : List (Nat → Int)} {e : Int} {fine : Bool} (h : paC l e fine = 0) : tkOk l = true ∧ inB 0 3 e = true ∧ fine = true := by
  unfold paC at h
  split at h
  · split at h
    · rename_i h1 h2; rw [Bool.and_eq_true] at h2; exact ⟨h1, h2.1, h2.2⟩
    · cases h
  · cases h
theorem checkTrack {H : List Blk} {v : V} {l : List (Nat → Int)} {e : Int} (h : Rd H v encK l) (hK : ∀ a ∈ l, KyW a) (hl : l.length ≤ 1000000) :
    Cal Tryz.prog 46 [v, .v (.int .i64 e)] H fun u H' => u = .v (.int .i64 (paC l e true)) ∧ H' = H := by
  have hsol := h.solid
  refine cal_fn 11 mixed Tryz.func46 Tryz.ntmps46 Tryz.results46 rfl rfl rfl fun hw cx hx hq => ?_
  by_cases e1 : tkOk l = true
  · cases e2 : inB 0 3 e
    · have hC : paC l e true = 2 := by unfold paC; rw [if_pos e1, e2]; rfl
      repeat (first | (simp only [go_sem, Int.reduceLT, Int.reduceLE, Int.reduceEq, Int.reduceToNat, hsol, e1, e2]) | ((with_reducible refine And.intro ?_ ?_); omega) | ((with_reducible refine isSK ?_); first | (refine call_ret (validTrack h hK hl) (by simp only [go_sem, Int.reduceLT, Int.reduceLE, Int.reduceEq, Int.reduceToNat, hsol, e1, e2]) ?_) | (refine call_ret (isEase) (by simp only [go_sem, Int.reduceLT, Int.reduceLE, Int.reduceEq, Int.reduceToNat, hsol, e1, e2]) ?_)) | ((with_reducible refine And.intro ?_ ?_); first | (with_reducible rfl) | assumption | (simp only [go_sem]; done)))
      refine ret_same hq _ (.inl rfl) ?_
      simp [go_sem, hC]
    · have hC : paC l e true = 0 := by unfold paC; rw [if_pos e1, e2]; rfl
      repeat (first | (simp only [go_sem, Int.reduceLT, Int.reduceLE, Int.reduceEq, Int.reduceToNat, hsol, e1, e2]) | ((with_reducible refine And.intro ?_ ?_); omega) | ((with_reducible refine isSK ?_); first | (refine call_ret (validTrack h hK hl) (by simp only [go_sem, Int.reduceLT, Int.reduceLE, Int.reduceEq, Int.reduceToNat, hsol, e1, e2]) ?_) | (refine call_ret (isEase) (by simp only [go_sem, Int.reduceLT, Int.reduceLE, Int.reduceEq, Int.reduceToNat, hsol, e1, e2]) ?_)) | ((with_reducible refine And.intro ?_ ?_); first | (with_reducible rfl) | assumption | (simp only [go_sem]; done)))
      refine ret_same hq _ (.inl rfl) ?_
      simp [go_sem, hC]
  · have hC : paC l e true = 1 := by unfold paC; rw [if_neg e1]
    rw [Bool.not_eq_true] at e1
    repeat (first | (simp only [go_sem, Int.reduceLT, Int.reduceLE, Int.reduceEq, Int.reduceToNat, hsol, e1]) | ((with_reducible refine And.intro ?_ ?_); omega) | ((with_reducible refine isSK ?_); first | (refine call_ret (validTrack h hK hl) (by simp only [go_sem, Int.reduceLT, Int.reduceLE, Int.reduceEq, Int.reduceToNat, hsol, e1]) ?_)) | ((with_reducible refine And.intro ?_ ?_); first | (with_reducible rfl) | assumption | (simp only [go_sem]; done)))
    refine ret_same hq _ (.inl rfl) ?_
    simp [go_sem, hC]
theorem l03Asked {H : List Blk} {v : V} {l : List (Nat → Int)} {e : Int} {fine : Bool} (h : Rd H v encK l) (hK : ∀ a ∈ l, KyW a) (hl : l.length ≤ 1000000) :
    Cal Tryz.prog 48 [v, .v (.int .i64 e), .v (.bool fine)] H fun u H' => u = .v (.int .i64 (paC l e fine)) ∧ H' = H := by
  have hsol := h.solid
  refine cal_fn 14 mixed Tryz.func48 Tryz.ntmps48 Tryz.results48 rfl rfl rfl fun hw cx hx hq => ?_
  by_cases e1 : tkOk l = true
  · cases e2 : inB 0 3 e
    · have hC : paC l e fine = 2 := by unfold paC; rw [if_pos e1, e2]; rfl
      repeat (first | (simp only [go_sem, Int.reduceLT, Int.reduceLE, Int.reduceEq, Int.reduceToNat, hsol, e1, e2]) | ((with_reducible refine And.intro ?_ ?_); omega) | ((with_reducible refine isSK ?_); first | (refine call_ret (l03Ok h hK hl) (by simp only [go_sem, Int.reduceLT, Int.reduceLE, Int.reduceEq, Int.reduceToNat, hsol, e1, e2]) ?_) | (refine call_ret (l03Ease) (by simp only [go_sem, Int.reduceLT, Int.reduceLE, Int.reduceEq, Int.reduceToNat, hsol, e1, e2]) ?_)) | ((with_reducible refine And.intro ?_ ?_); first | (with_reducible rfl) | assumption | (simp only [go_sem]; done)))
      refine ret_same hq _ (.inl rfl) ?_
      simp [go_sem, hC]
    · cases fine
      · have hC : paC l e false = 2 := by unfold paC; rw [if_pos e1, e2]; rfl
        repeat (first | (simp only [go_sem, Int.reduceLT, Int.reduceLE, Int.reduceEq, Int.reduceToNat, hsol, e1, e2]) | ((with_reducible refine And.intro ?_ ?_); omega) | ((with_reducible refine isSK ?_); first | (refine call_ret (l03Ok h hK hl) (by simp only [go_sem, Int.reduceLT, Int.reduceLE, Int.reduceEq, Int.reduceToNat, hsol, e1, e2]) ?_) | (refine call_ret (l03Ease) (by simp only [go_sem, Int.reduceLT, Int.reduceLE, Int.reduceEq, Int.reduceToNat, hsol, e1, e2]) ?_)) | ((with_reducible refine And.intro ?_ ?_); first | (with_reducible rfl) | assumption | (simp only [go_sem]; done)))
        refine ret_same hq _ (.inl rfl) ?_
        simp [go_sem, hC]
      · have hC : paC l e true = 0 := by unfold paC; rw [if_pos e1, e2]; rfl
        repeat (first | (simp only [go_sem, Int.reduceLT, Int.reduceLE, Int.reduceEq, Int.reduceToNat, hsol, e1, e2]) | ((with_reducible refine And.intro ?_ ?_); omega) | ((with_reducible refine isSK ?_); first | (refine call_ret (l03Ok h hK hl) (by simp only [go_sem, Int.reduceLT, Int.reduceLE, Int.reduceEq, Int.reduceToNat, hsol, e1, e2]) ?_) | (refine call_ret (l03Ease) (by simp only [go_sem, Int.reduceLT, Int.reduceLE, Int.reduceEq, Int.reduceToNat, hsol, e1, e2]) ?_)) | ((with_reducible refine And.intro ?_ ?_); first | (with_reducible rfl) | assumption | (simp only [go_sem]; done)))
        refine ret_same hq _ (.inl rfl) ?_
        simp [go_sem, hC]
  · have hC : paC l e fine = 1 := by unfold paC; rw [if_neg e1]
    rw [Bool.not_eq_true] at e1
    repeat (first | (simp only [go_sem, Int.reduceLT, Int.reduceLE, Int.reduceEq, Int.reduceToNat, hsol, e1]) | ((with_reducible refine And.intro ?_ ?_); omega) | ((with_reducible refine isSK ?_); first | (refine call_ret (l03Ok h hK hl) (by simp only [go_sem, Int.reduceLT, Int.reduceLE, Int.reduceEq, Int.reduceToNat, hsol, e1]) ?_)) | ((with_reducible refine And.intro ?_ ?_); first | (with_reducible rfl) | assumption | (simp only [go_sem]; done)))
    refine ret_same hq _ (.inl rfl) ?_
    simp [go_sem, hC]
def p3 (x y c : Int) : V := .t [.v (.int .i64 x), .v (.int .i64 y), .v (.int .i64 c)]
theorem implPlaceAt {H : List Blk} {v : V} {l : List (Nat → Int)} {e tick : Int} (h : Rd H v encK l) (hK : ∀ a ∈ l, KyW a) (hl : l.length ≤ 1000000) :
    Cal Tryz.prog 20 [v, .v (.int .i64 e), .v (.int .i64 tick)] H fun u H' => u = .t [.v (.int .i64 (if paC l e (inB 0 200 tick) = 0 then placeR l e tick 1 else 0)), .v (.int .i64 (if paC l e (inB 0 200 tick) = 0 then placeR l e tick 2 else 0)), .v (.int .i64 (paC l e (inB 0 200 tick)))] ∧ H' = H := by
  have hsol := h.solid
  refine cal_fn 27 mixed Tryz.func20 Tryz.ntmps20 Tryz.results20 rfl rfl rfl fun hw cx hx hq => ?_
  by_cases hc : paC l e (inB 0 200 tick) = 0
  · obtain ⟨h1, h2, h3⟩ := paC_ok hc
    have h0 : paC l e true = 0 := by unfold paC; rw [if_pos h1, h2]; rfl
    have ht := inB_iff.1 h3
    repeat (first | (simp only [go_sem, Int.reduceLT, Int.reduceLE, Int.reduceEq, Int.reduceToNat, hsol, h0, h3]) | ((with_reducible refine And.intro ?_ ?_); omega) | ((with_reducible refine isSK ?_); first | (refine call_ret (checkTrack h hK hl) (by simp only [go_sem, Int.reduceLT, Int.reduceLE, Int.reduceEq, Int.reduceToNat, hsol, h0, h3]) ?_) | (refine call_ret (isTick) (by simp only [go_sem, Int.reduceLT, Int.reduceLE, Int.reduceEq, Int.reduceToNat, hsol, h0, h3]) ?_) | (refine call_ret (trackAt h hK h1 ht) (by simp only [go_sem, Int.reduceLT, Int.reduceLE, Int.reduceEq, Int.reduceToNat, hsol, h0, h3]) ?_)) | ((with_reducible refine And.intro ?_ ?_); first | (with_reducible rfl) | assumption | (simp only [go_sem]; done)))
    refine ret_same hq _ (.inl rfl) ?_
    simp [go_sem, hc]
  · have hc0 : (paC l e (inB 0 200 tick) = 0) = False := eq_false hc
    by_cases h0 : paC l e true = 0
    · obtain ⟨h1, h2, _⟩ := paC_ok h0
      have h3 : inB 0 200 tick = false := by
        cases h3 : inB 0 200 tick
        · rfl
        · rw [h3] at hc; exact absurd h0 hc
      have hC : paC l e false = 2 := by unfold paC; rw [if_pos h1, h2]; rfl
      repeat (first | (simp only [go_sem, Int.reduceLT, Int.reduceLE, Int.reduceEq, Int.reduceToNat, hsol, h0, h3]) | ((with_reducible refine And.intro ?_ ?_); omega) | ((with_reducible refine isSK ?_); first | (refine call_ret (checkTrack h hK hl) (by simp only [go_sem, Int.reduceLT, Int.reduceLE, Int.reduceEq, Int.reduceToNat, hsol, h0, h3]) ?_) | (refine call_ret (isTick) (by simp only [go_sem, Int.reduceLT, Int.reduceLE, Int.reduceEq, Int.reduceToNat, hsol, h0, h3]) ?_)) | ((with_reducible refine And.intro ?_ ?_); first | (with_reducible rfl) | assumption | (simp only [go_sem]; done)))
      refine ret_same hq _ (.inl rfl) ?_
      simp [go_sem, hC, h3]
    · have h00 : (paC l e true = 0) = False := eq_false h0
      have hC : paC l e (inB 0 200 tick) = paC l e true := by
        unfold paC at h0 ⊢
        by_cases h1 : tkOk l = true
        · rw [if_pos h1] at h0 ⊢
          rw [if_pos h1]
          cases h2 : inB 0 3 e
          · rfl
          · rw [h2] at h0; simp at h0
        · rw [if_neg h1, if_neg h1]
      repeat (first | (simp only [go_sem, Int.reduceLT, Int.reduceLE, Int.reduceEq, Int.reduceToNat, hsol, h00]) | ((with_reducible refine And.intro ?_ ?_); omega) | ((with_reducible refine isSK ?_); first | (refine call_ret (checkTrack h hK hl) (by simp only [go_sem, Int.reduceLT, Int.reduceLE, Int.reduceEq, Int.reduceToNat, hsol, h00]) ?_) | (refine call_ret (isTick) (by simp only [go_sem, Int.reduceLT, Int.reduceLE, Int.reduceEq, Int.reduceToNat, hsol, h00]) ?_)) | ((with_reducible refine And.intro ?_ ?_); first | (with_reducible rfl) | assumption | (simp only [go_sem]; done)))
      refine ret_same hq _ (.inl rfl) ?_
      simp [go_sem, hC, h0]
theorem specPlaceAt {H : List Blk} {v : V} {l : List (Nat → Int)} {e tick : Int} (h : Rd H v encK l) (hK : ∀ a ∈ l, KyW a) (hl : l.length ≤ 1000000) :
    Cal Tryz.prog 21 [v, .v (.int .i64 e), .v (.int .i64 tick)] H fun u H' => u = .t [.v (.int .i64 (if paC l e (inB 0 200 tick) = 0 then placeR l e tick 1 else 0)), .v (.int .i64 (if paC l e (inB 0 200 tick) = 0 then placeR l e tick 2 else 0)), .v (.int .i64 (paC l e (inB 0 200 tick)))] ∧ H' = H := by
  have hsol := h.solid
  refine cal_fn 26 mixed Tryz.func21 Tryz.ntmps21 Tryz.results21 rfl rfl rfl fun hw cx hx hq => ?_
  by_cases hc : paC l e (inB 0 200 tick) = 0
  · obtain ⟨h1, h2, h3⟩ := paC_ok hc
    have ht := inB_iff.1 h3
    repeat (first | (simp only [go_sem, Int.reduceLT, Int.reduceLE, Int.reduceEq, Int.reduceToNat, hsol, hc]) | ((with_reducible refine And.intro ?_ ?_); omega) | ((with_reducible refine isSK ?_); first | (refine call_ret (l03Tick) (by simp only [go_sem, Int.reduceLT, Int.reduceLE, Int.reduceEq, Int.reduceToNat, hsol, hc]) ?_) | (refine call_ret (l03Asked h hK hl) (by simp only [go_sem, Int.reduceLT, Int.reduceLE, Int.reduceEq, Int.reduceToNat, hsol, hc]) ?_) | (refine call_ret (l03Place h hK h1 ht) (by simp only [go_sem, Int.reduceLT, Int.reduceLE, Int.reduceEq, Int.reduceToNat, hsol, hc]) ?_)) | ((with_reducible refine And.intro ?_ ?_); first | (with_reducible rfl) | assumption | (simp only [go_sem]; done)))
    refine ret_same hq _ (.inl rfl) ?_
    simp [go_sem, hc]
  · have hc0 : (paC l e (inB 0 200 tick) = 0) = False := eq_false hc
    repeat (first | (simp only [go_sem, Int.reduceLT, Int.reduceLE, Int.reduceEq, Int.reduceToNat, hsol, hc0]) | ((with_reducible refine And.intro ?_ ?_); omega) | ((with_reducible refine isSK ?_); first | (refine call_ret (l03Tick) (by simp only [go_sem, Int.reduceLT, Int.reduceLE, Int.reduceEq, Int.reduceToNat, hsol, hc0]) ?_) | (refine call_ret (l03Asked h hK hl) (by simp only [go_sem, Int.reduceLT, Int.reduceLE, Int.reduceEq, Int.reduceToNat, hsol, hc0]) ?_)) | ((with_reducible refine And.intro ?_ ?_); first | (with_reducible rfl) | assumption | (simp only [go_sem]; done)))
    refine ret_same hq _ (.inl rfl) ?_
    simp [go_sem, hc]
end Go.Proofs.YtcebmjajnbafoaaGreatDoor
namespace Go.Proofs.YtcebmjajnbafoaaGreatDoor
open Go Go.Sx
theorem flat_snoc {α : Type} (enc : α → List V) (l : List α) (a : α) : (l ++ [a]).flatMap enc = l.flatMap enc ++ enc a := by simp
theorem placeR_range {l : List (Nat → Int)} {e tick : Int} (hv : tkOk l = true) {c : Nat} (hc : c = 1 ∨ c = 2) : -24 ≤ placeR l e tick c ∧ placeR l e tick c ≤ 24 := by
  have hlen := tkOk_len hv
  have hr : ∀ j, j < l.length → -24 ≤ kAt l j c ∧ kAt l j c ≤ 24 := fun j hj => by
    have := okK_iff.1 (tkOk_at hv hj).1
    rw [kAt_at hj]
    rcases hc with rfl | rfl
    · exact this.2.1
    · exact this.2.2
  have hk := kn_le l tick
  obtain ⟨h1, h2⟩ := kn_spec l tick
  unfold placeR
  split
  · exact hr _ (by omega)
  · rename_i hne
    obtain ⟨m, hm⟩ : ∃ m, kn l tick = m + 1 := ⟨kn l tick - 1, by omega⟩
    have hlt : kn l tick < l.length := by omega
    have a1 := h1 m (by omega) (by omega)
    have a2 : tick < kAt l (kn l tick) 0 := by rw [kAt_at hlt]; exact h2 hlt
    rw [hm] at a2
    rw [hm, show m + 1 - 1 = m from rfl]
    rw [kAt_at (show m < l.length by omega), kAt_at (show m + 1 < l.length by omega)]
    rw [kAt_at (show m + 1 < l.length by omega)] at a2
    have hmn := tkOk_lt hv (show m < m + 1 by omega) (show m + 1 < l.length by omega)
    have hs := shareR_range (e := e) (s := tick - l[m] 0) (t := l[m + 1] 0 - l[m] 0) (by omega) (by omega) (by omega)
    have b1 := hr m (by omega)
    rw [kAt_at (show m < l.length by omega)] at b1
    have b2 := hr (m + 1) (by omega)
    rw [kAt_at (show m + 1 < l.length by omega)] at b2
    exact betweenR_range hs.1 hs.2 b1 b2
theorem spd_range {l : List (Nat → Int)} {e : Int} (hv : tkOk l = true) (j : Nat) : 0 ≤ spd l e j ∧ spd l e j ≤ 96 := by
  unfold spd sizeR
  have a1 := placeR_range (e := e) (tick := kAt l 0 0 + 1 + j) hv (.inl rfl)
  have a2 := placeR_range (e := e) (tick := kAt l 0 0 + 1 + j) hv (.inr rfl)
  have a3 := placeR_range (e := e) (tick := kAt l 0 0 + j) hv (.inl rfl)
  have a4 := placeR_range (e := e) (tick := kAt l 0 0 + j) hv (.inr rfl)
  omega
/-- How many ticks a track has behind its first one. -/
def tkN (l : List (Nat → Int)) : Nat := (kAt l (l.length - 1) 0 - kAt l 0 0).toNat
theorem tkN_eq {l : List (Nat → Int)} (hv : tkOk l = true) : (tkN l : Int) = kAt l (l.length - 1) 0 - kAt l 0 0 ∧ tkN l ≤ 200 := by
  have hlen := tkOk_len hv
  have h0 := okK_iff.1 (tkOk_at hv (show 0 < l.length by omega)).1
  have h1 := okK_iff.1 (tkOk_at hv (show l.length - 1 < l.length by omega)).1
  rw [← kAt_at (show 0 < l.length by omega)] at h0
  rw [← kAt_at (show l.length - 1 < l.length by omega)] at h1
  have h2 : kAt l 0 0 ≤ kAt l (l.length - 1) 0 := by
    by_cases e : l.length - 1 = 0
    · rw [e]; exact Int.le_refl _
    · have := tkOk_lt hv (show 0 < l.length - 1 by omega) (by omega)
      rw [kAt_at (show 0 < l.length by omega), kAt_at (show l.length - 1 < l.length by omega)]; omega
  unfold tkN
  omega
theorem implSize {H : List Blk} {n : Int} (hn : -9223372036854775807 ≤ n ∧ n ≤ 9223372036854775807) : Cal Tryz.prog 80 [.v (.int .i64 n)] H fun u H' => u = .v (.int .i64 (sizeR n)) ∧ H' = H := by
  refine cal_fn 6 mixed Tryz.func80 Tryz.ntmps80 Tryz.results80 rfl rfl rfl fun hw cx hx hq => ?_
  repeat (first | (simp only [go_sem, Int.reduceLT, Int.reduceLE, Int.reduceEq, Int.reduceToNat]) | ((with_reducible refine And.intro ?_ ?_); omega) | ((with_reducible refine And.intro ?_ ?_); first | (with_reducible rfl) | assumption | (simp only [go_sem]; done)))
  refine ret_same hq _ (.inl rfl) ?_
  simp [go_sem, sizeR]
  try (split <;> omega)
theorem specSize {H : List Blk} {n : Int} (hn : -9223372036854775807 ≤ n ∧ n ≤ 9223372036854775807) : Cal Tryz.prog 82 [.v (.int .i64 n)] H fun u H' => u = .v (.int .i64 (sizeR n)) ∧ H' = H := l03Size hn

theorem trackEnds {H : List Blk} {v : V} {l : List (Nat → Int)} (h : Rd H v encK l) (hK : ∀ a ∈ l, KyW a) (hv : tkOk l = true) :
    Cal Tryz.prog 39 [v] H fun u H' => u = .t [.v (.int .i64 (kAt l 0 0)), .v (.int .i64 (kAt l (l.length - 1) 0))] ∧ H' = H := by
  have hlen := tkOk_len hv
  have hsol := h.solid
  have hL := h.lenV (P := Tryz.prog) slTy25
  obtain ⟨m, hm⟩ : ∃ m, l.length = m + 1 := ⟨l.length - 1, by omega⟩
  have hj0 : 0 < l.length := by omega
  have hjm : m < l.length := by omega
  have t0 : ((l.length : Int) - 1).toNat = m := by omega
  have k0 : kAt l 0 0 = l[0] 0 := by rw [kAt_at hj0]
  have k1 : kAt l (l.length - 1) 0 = l[m] 0 := by rw [show l.length - 1 = m by omega, kAt_at hjm]
  have hN := tkN_eq hv
  rw [k0, k1] at hN
  have hv0 := h
  obtain ⟨i, off, c, b, rfl, hat, hfit⟩ := h.full (by omega)
  have hlt := hat.lt
  have g2 : ∀ L : List Blk, (H ++ L)[i]? = some b := fun L => get_app hat.get
  have pf : off + 3 ≤ b.cells.length := by simpa using hat.fits encK 3 encK_len hj0 (by omega)
  have pa : seg b.cells off 3 = encK l[0] := by simpa using hat.elem encK 3 encK_len hj0
  have pe : At H i off (rowK kK 3 l[0]) b := by
    have := hat.el encK_len hj0
    rw [Nat.zero_mul, Nat.add_zero] at this; exact this
  have p0 : cel b.cells off = .v (.int .i16 (l[0] 0)) := pe.celK (j := 0) (by omega)
  have p1 : cel b.cells (off + 1) = .v (.int .i8 (l[0] 1)) := pe.celK (j := 1) (by omega)
  have p2 : cel b.cells (off + 2) = .v (.int .i8 (l[0] 2)) := pe.celK (j := 2) (by omega)
  have pk := okK_iff.1 (tkOk_at hv hj0).1
  have qe : At H i (off + m * 3) (rowK kK 3 (l[m]'hjm)) b := hat.el encK_len hjm
  have qf := hat.fits encK 3 encK_len hjm (by omega)
  have qa := hat.elem encK 3 encK_len hjm
  have q0 : cel b.cells (off + m * 3) = .v (.int .i16 ((l[m]'hjm) 0)) := qe.celK (j := 0) (by omega)
  have q1 : cel b.cells (off + m * 3 + 1) = .v (.int .i8 ((l[m]'hjm) 1)) := qe.celK (j := 1) (by omega)
  have q2 : cel b.cells (off + m * 3 + 2) = .v (.int .i8 ((l[m]'hjm) 2)) := qe.celK (j := 2) (by omega)
  simp only [Nat.add_assoc] at q1 q2
  have qk := okK_iff.1 (tkOk_at hv hjm).1
  refine cal_fn 16 mixed Tryz.func39 Tryz.ntmps39 Tryz.results39 rfl rfl rfl fun hw cx hx hq => ?_
  repeat (first | (simp only [go_sem, Int.reduceLT, Int.reduceLE, Int.reduceEq, Int.reduceToNat, hL, hat.get, g2, hat.live, hlt, celK0, celK1, celK2, encK_len, t0, pf, pa, p0, p1, p2, qf, qa, q0, q1, q2]) | ((with_reducible refine And.intro ?_ ?_); omega) | ((with_reducible refine isWKr (id := 1) ?_); refine WK_drawAt 1 [[],[0],[0,1],[0,1,2],[0,1,2,3],[],[],[6],[6,7],[5,6,7,8],[5,6,7,8,9],[5,6,7,8,9,10],[5,6,7,8,9,10,11],[0,1,2,3,4],[0,1,2,3,4,5,6,7,8,9,10,11,12,13]] (by kernel_rfl) ?_) | ((with_reducible refine And.intro ?_ ?_); first | (with_reducible rfl) | assumption | (simp only [go_sem]; done)))
  first | refine ret_same hq _ (.inl rfl) ?_ | refine ret_cut hq hw _ (.inl rfl) ?_
  simp [go_sem, k0, k1]

theorem trackSpeeds {H : List Blk} {v : V} {l : List (Nat → Int)} {e : Int} (h : Rd H v encK l) (hK : ∀ a ∈ l, KyW a) (hv : tkOk l = true) :
    Cal Tryz.prog 47 [v, .v (.int .i64 e)] H fun u H' => u = .s H.length 0 (tkN l) (.u 0) ∧ H' = H ++ [⟨(spL l e (tkN l)).flatMap i64C, 2, .own 1⟩] := by
  have hlen := tkOk_len hv
  have hsol := h.solid
  have hL := h.lenV (P := Tryz.prog) slTy25
  obtain ⟨m, hm⟩ : ∃ m, l.length = m + 1 := ⟨l.length - 1, by omega⟩
  have hj0 : 0 < l.length := by omega
  have hjm : m < l.length := by omega
  have t0 : ((l.length : Int) - 1).toNat = m := by omega
  have k0 : kAt l 0 0 = l[0] 0 := by rw [kAt_at hj0]
  have k1 : kAt l (l.length - 1) 0 = l[m] 0 := by rw [show l.length - 1 = m by omega, kAt_at hjm]
  have hN := tkN_eq hv
  rw [k0, k1] at hN
  have hv0 := h
  obtain ⟨i, off, c, b, rfl, hat, hfit⟩ := h.full (by omega)
  have hlt := hat.lt
  have g2 : ∀ L : List Blk, (H ++ L)[i]? = some b := fun L => get_app hat.get
  have pf : off + 3 ≤ b.cells.length := by simpa using hat.fits encK 3 encK_len hj0 (by omega)
  have pa : seg b.cells off 3 = encK l[0] := by simpa using hat.elem encK 3 encK_len hj0
  have pe : At H i off (rowK kK 3 l[0]) b := by
    have := hat.el encK_len hj0
    rw [Nat.zero_mul, Nat.add_zero] at this; exact this
  have p0 : cel b.cells off = .v (.int .i16 (l[0] 0)) := pe.celK (j := 0) (by omega)
  have p1 : cel b.cells (off + 1) = .v (.int .i8 (l[0] 1)) := pe.celK (j := 1) (by omega)
  have p2 : cel b.cells (off + 2) = .v (.int .i8 (l[0] 2)) := pe.celK (j := 2) (by omega)
  have pk := okK_iff.1 (tkOk_at hv hj0).1
  have qe : At H i (off + m * 3) (rowK kK 3 (l[m]'hjm)) b := hat.el encK_len hjm
  have qf := hat.fits encK 3 encK_len hjm (by omega)
  have qa := hat.elem encK 3 encK_len hjm
  have q0 : cel b.cells (off + m * 3) = .v (.int .i16 ((l[m]'hjm) 0)) := qe.celK (j := 0) (by omega)
  have q1 : cel b.cells (off + m * 3 + 1) = .v (.int .i8 ((l[m]'hjm) 1)) := qe.celK (j := 1) (by omega)
  have q2 : cel b.cells (off + m * 3 + 2) = .v (.int .i8 ((l[m]'hjm) 2)) := qe.celK (j := 2) (by omega)
  simp only [Nat.add_assoc] at q1 q2
  have qk := okK_iff.1 (tkOk_at hv hjm).1
  have h0 : ∀ L, Rd (H ++ L) (.s i off l.length c) encK l := fun L => hv0.app
  refine cal_fn 52 mixed Tryz.func47 Tryz.ntmps47 Tryz.results47 rfl rfl rfl fun hw cx hx hq => ?_
  repeat (first | (simp only [go_sem, Int.reduceLT, Int.reduceLE, Int.reduceEq, Int.reduceToNat, hL, hat.get, g2, hat.live, hlt, celK0, celK1, celK2, encK_len, t0, pf, pa, p0, p1, p2, k0, k1]) | ((with_reducible refine And.intro ?_ ?_); omega) | ((with_reducible refine isSK ?_); first | (refine call_ret (trackEnds (h0 _) hK hv) (by simp only [go_sem, Int.reduceLT, Int.reduceLE, Int.reduceEq, Int.reduceToNat, hL, hat.get, g2, hat.live, hlt, celK0, celK1, celK2, encK_len, t0, pf, pa, p0, p1, p2, k0, k1]) ?_)) | ((with_reducible refine And.intro ?_ ?_); first | (with_reducible rfl) | assumption | (simp only [go_sem]; done)))
  refine WK_for (fun n : Nat => ⟨[.s i off l.length c, .v (.int .i64 e), .any, .any, .any, .s H.length 0 n (.u 0), .v (.int .i64 (l[0] 0)), .v (.int .i64 (l[m] 0)), .v (.int .i64 (l[0] 0 + 1 + n))] ++ junk 45, H ++ [⟨(spL l e n).flatMap i64C, 2, .own 1⟩]⟩) (fun n => n ≤ tkN l) (fun n => tkN l - n) 0 (Weak.slots ?_) ?_ fun n hn => ?_
  · simp [go_sem]
  · simp
  rcases Int.lt_or_le (l[m] 0) (l[0] 0 + 1 + n) with hc | hc
  · have : n = tkN l := by omega
    subst this
    repeat (first | (simp only [go_sem, Int.reduceLT, Int.reduceLE, Int.reduceEq, Int.reduceToNat, hL, hat.get, g2, hat.live, hlt, celK0, celK1, celK2, encK_len, t0, qf, qa, q0, q1, q2, Int.not_le.2 hc]) | ((with_reducible refine And.intro ?_ ?_); omega) | ((with_reducible refine And.intro ?_ ?_); first | (with_reducible rfl) | assumption | (simp only [go_sem]; done)))
    refine ret_at hq _ (.inl rfl) (by simp) ?_
    simp [go_sem]
  · have hs : sizeR (placeR l e (l[0] 0 + (1 : Int) + (n : Int)) 1 - placeR l e (l[0] 0 + (1 : Int) + (n : Int) - (1 : Int)) 1) + sizeR (placeR l e (l[0] 0 + (1 : Int) + (n : Int)) 2 - placeR l e (l[0] 0 + (1 : Int) + (n : Int) - (1 : Int)) 2) = spd l e n := by
      have e9 : l[0] 0 + (1 : Int) + (n : Int) - (1 : Int) = l[0] 0 + (n : Int) := by omega
      rw [e9]; unfold spd; rw [k0]
    have r0 := spd_range (e := e) hv n
    have r1 := placeR_range (e := e) (tick := l[0] 0 + (1 : Int) + (n : Int)) hv (.inl rfl)
    have r2 := placeR_range (e := e) (tick := l[0] 0 + (1 : Int) + (n : Int)) hv (.inr rfl)
    have r3 := placeR_range (e := e) (tick := l[0] 0 + (1 : Int) + (n : Int) - (1 : Int)) hv (.inl rfl)
    have r4 := placeR_range (e := e) (tick := l[0] 0 + (1 : Int) + (n : Int) - (1 : Int)) hv (.inr rfl)
    have hn1 : norefH H.length H := norefH_wf hw (Nat.le_refl _)
    have hn2 : norefs H.length ((spL l e n).flatMap i64C) = true := flat_i64.norefs _ _
    have hl2 : ((spL l e n).flatMap i64C).length = n := by rw [flat_i64.flen, Nat.mul_one, spL_len]
    have hd1 : (H.length + 1 = H.length) = False := eq_false (by omega)
    have hd2 : (i = H.length) = False := eq_false (by omega)
    repeat (first | (simp only [go_sem, Int.reduceLT, Int.reduceLE, Int.reduceEq, Int.reduceToNat, hL, hat.get, g2, hat.live, hlt, celK0, celK1, celK2, encK_len, t0, qf, qa, q0, q1, q2, hc, hn1, hn2, hl2, hd1, hd2, hx, hs]) | ((with_reducible refine And.intro ?_ ?_); omega) | ((with_reducible refine isSK ?_); first | (refine call_ret (trackEnds (h0 _) hK hv) (by simp only [go_sem, Int.reduceLT, Int.reduceLE, Int.reduceEq, Int.reduceToNat, hL, hat.get, g2, hat.live, hlt, celK0, celK1, celK2, encK_len, t0, qf, qa, q0, q1, q2, hc, hn1, hn2, hl2, hd1, hd2, hx, hs]) ?_) | (refine call_ret (trackAt (h0 _) hK hv (by omega)) (by simp only [go_sem, Int.reduceLT, Int.reduceLE, Int.reduceEq, Int.reduceToNat, hL, hat.get, g2, hat.live, hlt, celK0, celK1, celK2, encK_len, t0, qf, qa, q0, q1, q2, hc, hn1, hn2, hl2, hd1, hd2, hx, hs]) ?_) | (refine call_ret (implSize (by omega)) (by simp only [go_sem, Int.reduceLT, Int.reduceLE, Int.reduceEq, Int.reduceToNat, hL, hat.get, g2, hat.live, hlt, celK0, celK1, celK2, encK_len, t0, qf, qa, q0, q1, q2, hc, hn1, hn2, hl2, hd1, hd2, hx, hs]) ?_)) | ((with_reducible refine And.intro ?_ ?_); first | (with_reducible rfl) | assumption | (simp only [go_sem]; done)))
    refine EK_again (n + 1) ?_ (by omega) (by omega)
    have e10 : l[0] 0 + (1 : Int) + ((n + 1 : Nat) : Int) = l[0] 0 + (1 : Int) + (n : Int) + (1 : Int) := by omega
    rw [spL_succ, flat_snoc, e10]
    exact Weak.keepN rfl (by simp [go_sem] <;> omega) (by simp [hx]) (by simp [go_sem, flat_i64.lts, i64C, hlt] <;> omega) (hw.app (by simp [go_sem, flat_i64.lts, i64C, hlt] <;> omega))

theorem l03Speeds {H : List Blk} {v : V} {l : List (Nat → Int)} {e : Int} (h : Rd H v encK l) (hK : ∀ a ∈ l, KyW a) (hv : tkOk l = true) :
    Cal Tryz.prog 49 [v, .v (.int .i64 e)] H fun u H' => u = .s H.length 0 (tkN l) (.u 0) ∧ H' = H ++ [⟨(spL l e (tkN l)).flatMap i64C, 2, .own 1⟩] := by
  have hlen := tkOk_len hv
  have hsol := h.solid
  have hL := h.lenV (P := Tryz.prog) slTy25
  obtain ⟨m, hm⟩ : ∃ m, l.length = m + 1 := ⟨l.length - 1, by omega⟩
  have hj0 : 0 < l.length := by omega
  have hjm : m < l.length := by omega
  have t0 : ((l.length : Int) - 1).toNat = m := by omega
  have k0 : kAt l 0 0 = l[0] 0 := by rw [kAt_at hj0]
  have k1 : kAt l (l.length - 1) 0 = l[m] 0 := by rw [show l.length - 1 = m by omega, kAt_at hjm]
  have hN := tkN_eq hv
  rw [k0, k1] at hN
  have hv0 := h
  obtain ⟨i, off, c, b, rfl, hat, hfit⟩ := h.full (by omega)
  have hlt := hat.lt
  have g2 : ∀ L : List Blk, (H ++ L)[i]? = some b := fun L => get_app hat.get
  have pf : off + 3 ≤ b.cells.length := by simpa using hat.fits encK 3 encK_len hj0 (by omega)
  have pa : seg b.cells off 3 = encK l[0] := by simpa using hat.elem encK 3 encK_len hj0
  have pe : At H i off (rowK kK 3 l[0]) b := by
    have := hat.el encK_len hj0
    rw [Nat.zero_mul, Nat.add_zero] at this; exact this
  have p0 : cel b.cells off = .v (.int .i16 (l[0] 0)) := pe.celK (j := 0) (by omega)
  have p1 : cel b.cells (off + 1) = .v (.int .i8 (l[0] 1)) := pe.celK (j := 1) (by omega)
  have p2 : cel b.cells (off + 2) = .v (.int .i8 (l[0] 2)) := pe.celK (j := 2) (by omega)
  have pk := okK_iff.1 (tkOk_at hv hj0).1
  have qe : At H i (off + m * 3) (rowK kK 3 (l[m]'hjm)) b := hat.el encK_len hjm
  have qf := hat.fits encK 3 encK_len hjm (by omega)
  have qa := hat.elem encK 3 encK_len hjm
  have q0 : cel b.cells (off + m * 3) = .v (.int .i16 ((l[m]'hjm) 0)) := qe.celK (j := 0) (by omega)
  have q1 : cel b.cells (off + m * 3 + 1) = .v (.int .i8 ((l[m]'hjm) 1)) := qe.celK (j := 1) (by omega)
  have q2 : cel b.cells (off + m * 3 + 2) = .v (.int .i8 ((l[m]'hjm) 2)) := qe.celK (j := 2) (by omega)
  simp only [Nat.add_assoc] at q1 q2
  have qk := okK_iff.1 (tkOk_at hv hjm).1
  have h0 : ∀ L, Rd (H ++ L) (.s i off l.length c) encK l := fun L => hv0.app
  refine cal_fn 56 mixed Tryz.func49 Tryz.ntmps49 Tryz.results49 rfl rfl rfl fun hw cx hx hq => ?_
  repeat (first | (simp only [go_sem, Int.reduceLT, Int.reduceLE, Int.reduceEq, Int.reduceToNat, hL, hat.get, g2, hat.live, hlt, celK0, celK1, celK2, encK_len, t0, pf, pa, p0, p1, p2, k0, k1]) | ((with_reducible refine And.intro ?_ ?_); omega) | ((with_reducible refine isSK ?_); first | (refine call_ret (l03Place (h0 _) hK hv (by omega)) (by simp only [go_sem, Int.reduceLT, Int.reduceLE, Int.reduceEq, Int.reduceToNat, hL, hat.get, g2, hat.live, hlt, celK0, celK1, celK2, encK_len, t0, pf, pa, p0, p1, p2, k0, k1]) ?_)) | ((with_reducible refine And.intro ?_ ?_); first | (with_reducible rfl) | assumption | (simp only [go_sem]; done)))
  refine WK_for (fun n : Nat => ⟨[.s i off l.length c, .v (.int .i64 e), .any, .any, .any, .s H.length 0 n (.u 0), .v (.int .i64 (l[0] 0 + 1 + n))] ++ junk 51, H ++ [⟨(spL l e n).flatMap i64C, 2, .own 1⟩]⟩) (fun n => n ≤ tkN l) (fun n => tkN l - n) 0 (Weak.slots ?_) ?_ fun n hn => ?_
  · simp [go_sem]
  · simp
  rcases Int.lt_or_le (l[m] 0) (l[0] 0 + 1 + n) with hc | hc
  · have : n = tkN l := by omega
    subst this
    repeat (first | (simp only [go_sem, Int.reduceLT, Int.reduceLE, Int.reduceEq, Int.reduceToNat, hL, hat.get, g2, hat.live, hlt, celK0, celK1, celK2, encK_len, t0, qf, qa, q0, q1, q2, Int.not_le.2 hc]) | ((with_reducible refine And.intro ?_ ?_); omega) | ((with_reducible refine And.intro ?_ ?_); first | (with_reducible rfl) | assumption | (simp only [go_sem]; done)))
    refine ret_at hq _ (.inl rfl) (by simp) ?_
    simp [go_sem]
  · have hs : sizeR (placeR l e (l[0] 0 + (1 : Int) + (n : Int)) 1 - placeR l e (l[0] 0 + (1 : Int) + (n : Int) - (1 : Int)) 1) + sizeR (placeR l e (l[0] 0 + (1 : Int) + (n : Int)) 2 - placeR l e (l[0] 0 + (1 : Int) + (n : Int) - (1 : Int)) 2) = spd l e n := by
      have e9 : l[0] 0 + (1 : Int) + (n : Int) - (1 : Int) = l[0] 0 + (n : Int) := by omega
      rw [e9]; unfold spd; rw [k0]
    have r0 := spd_range (e := e) hv n
    have r1 := placeR_range (e := e) (tick := l[0] 0 + (1 : Int) + (n : Int)) hv (.inl rfl)
    have r2 := placeR_range (e := e) (tick := l[0] 0 + (1 : Int) + (n : Int)) hv (.inr rfl)
    have r3 := placeR_range (e := e) (tick := l[0] 0 + (1 : Int) + (n : Int) - (1 : Int)) hv (.inl rfl)
    have r4 := placeR_range (e := e) (tick := l[0] 0 + (1 : Int) + (n : Int) - (1 : Int)) hv (.inr rfl)
    have hn1 : norefH H.length H := norefH_wf hw (Nat.le_refl _)
    have hn2 : norefs H.length ((spL l e n).flatMap i64C) = true := flat_i64.norefs _ _
    have hl2 : ((spL l e n).flatMap i64C).length = n := by rw [flat_i64.flen, Nat.mul_one, spL_len]
    have hd1 : (H.length + 1 = H.length) = False := eq_false (by omega)
    have hd2 : (i = H.length) = False := eq_false (by omega)
    repeat (first | (simp only [go_sem, Int.reduceLT, Int.reduceLE, Int.reduceEq, Int.reduceToNat, hL, hat.get, g2, hat.live, hlt, celK0, celK1, celK2, encK_len, t0, qf, qa, q0, q1, q2, hc, hn1, hn2, hl2, hd1, hd2, hx, hs]) | ((with_reducible refine And.intro ?_ ?_); omega) | ((with_reducible refine isSK ?_); first | (refine call_ret (l03Place (h0 _) hK hv (by omega)) (by simp only [go_sem, Int.reduceLT, Int.reduceLE, Int.reduceEq, Int.reduceToNat, hL, hat.get, g2, hat.live, hlt, celK0, celK1, celK2, encK_len, t0, qf, qa, q0, q1, q2, hc, hn1, hn2, hl2, hd1, hd2, hx, hs]) ?_) | (refine call_ret (specSize (by omega)) (by simp only [go_sem, Int.reduceLT, Int.reduceLE, Int.reduceEq, Int.reduceToNat, hL, hat.get, g2, hat.live, hlt, celK0, celK1, celK2, encK_len, t0, qf, qa, q0, q1, q2, hc, hn1, hn2, hl2, hd1, hd2, hx, hs]) ?_)) | ((with_reducible refine And.intro ?_ ?_); first | (with_reducible rfl) | assumption | (simp only [go_sem]; done)))
    refine EK_again (n + 1) ?_ (by omega) (by omega)
    have e10 : l[0] 0 + (1 : Int) + ((n + 1 : Nat) : Int) = l[0] 0 + (1 : Int) + (n : Int) + (1 : Int) := by omega
    rw [spL_succ, flat_snoc, e10]
    exact Weak.keepN rfl (by simp [go_sem] <;> omega) (by simp [hx]) (by simp [go_sem, flat_i64.lts, i64C, hlt] <;> omega) (hw.app (by simp [go_sem, flat_i64.lts, i64C, hlt] <;> omega))

end Go.Proofs.YtcebmjajnbafoaaGreatDoor
