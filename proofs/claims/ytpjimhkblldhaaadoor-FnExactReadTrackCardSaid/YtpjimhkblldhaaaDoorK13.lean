/- Contracts of functions of the translated program, by the walk. -/
import Derived.Test.YtpjimhkblldhaaaDoorK9
set_option linter.unusedVariables false
set_option linter.unusedSimpArgs false
set_option maxRecDepth 8000
set_option maxHeartbeats 4000000
namespace Go.Proofs.YtpjimhkblldhaaaDoor
open Go Go.Sx
/-- A key of three numbers as they stand. -/
def mdK (f : Nat → Int) : Nat → Int := keyF (f 0) (f 1) (f 2)
theorem mdK_enc (f : Nat → Int) : ([.v (.int .i16 (f 0)), .v (.int .i8 (f 1)), .v (.int .i8 (f 2))] : List V) = encK (mdK f) := rfl
theorem row3 (f : Nat → Int) : rowL .i64 3 f = [.v (.int .i64 (f 0)), .v (.int .i64 (f 1)), .v (.int .i64 (f 2))] := rfl
theorem okK_KyW {a : Nat → Int} (h : okK a = true) : KyW a := by
  have := okK_iff.1 h
  exact ⟨by omega, by omega, by omega⟩
theorem hz3 : ∀ x : Nat → Int, (rowL .i64 3 x).length = 3 := fun _ => rowL_length ..
theorem map_take' {α β : Type} (f : α → β) (l : List α) (n : Nat) (h : n < l.length) : (l.take (n + 1)).map f = (l.take n).map f ++ [f l[n]] := by
  rw [List.take_succ_eq_append_getElem h, List.map_append]; rfl
theorem l03Made_ok {H : List Blk} {v : V} {L : List (Nat → Int)} (h : Rd H v (rowL .i64 3) L) (hv : tkOk (L.map mdK) = true) :
    Cal Tryd.prog 42 [v] H fun u H' => u = .t [.s H.length 0 L.length (.u 0), .v (.int .i64 0)] ∧ H' = H ++ [⟨(L.map mdK).flatMap encK, 51, .own 3⟩] := by
  have hsol := h.solid
  have hL := h.lenV (P := Tryd.prog) slTy60
  have hlen := tkOk_len hv
  rw [List.length_map] at hlen
  have hK : ∀ a ∈ L.map mdK, KyW a := fun a ha => by
    obtain ⟨j, hj, rfl⟩ := List.mem_iff_getElem.1 ha
    exact okK_KyW (tkOk_at hv hj).1
  refine cal_fn 65 mixed Tryd.func42 Tryd.ntmps42 Tryd.results42 rfl rfl rfl fun hw cx hx hq => ?_
  repeat (first | (simp only [go_sem, Int.reduceLT, Int.reduceLE, Int.reduceEq, Int.reduceToNat, hsol, hL]) | ((with_reducible refine And.intro ?_ ?_); omega) | ((with_reducible refine isWKr (id := 7) ?_); refine WK_drawUp 7 [[],[],[],[1,2],[1,2,3],[1,2,3,4],[1,2,3,4,5],[],[],[7,8],[7,8,9],[7,8,9,10],[7,8,9,10,11],[],[],[13,14],[13,14,15],[13,14,15,16],[13,14,15,16,17],[1,2,3,4,5,6,7,8,9,10,11,12,13,14,15,16,17,18],[1,2,3,4,5,6,7,8,9,10,11,12,13,14,15,16,17,18,19],[0,1,2,3,4,5,6,7,8,9,10,11,12,13,14,15,16,17,18,19,20],[0,1,2,3,4,5,6,7,8,9,10,11,12,13,14,15,16,17,18,19,20,21]] 21 (by kernel_rfl) ?_; dsimp only [List.take, List.drop]) | ((with_reducible refine And.intro ?_ ?_); first | (with_reducible rfl) | assumption | (simp only [go_sem]; done)))
  refine WK_for (fun n : Nat => ⟨[v, .any, .any, .any, .s H.length 0 n (.u 0), .v (.int .i64 n)] ++ junk 60, H ++ [⟨((L.take n).map mdK).flatMap encK, 51, .own 3⟩]⟩) (fun n => n ≤ L.length) (fun n => L.length - n) 0 (Weak.slots ?_) ?_ fun n hn => ?_
  · simp [go_sem]
  · simp
  rcases Int.lt_or_le (n : Int) L.length with hc | hc
  · skip
    have hj : n < L.length := by omega
    obtain ⟨i, off, c, b, rfl, hat, hfit⟩ := h.full (by omega)
    have hlt := hat.lt
    have g2 : ∀ L : List Blk, (H ++ L)[i]? = some b := fun L => get_app hat.get
    have ae := hat.el hz3 hj
    have af := hat.fits (rowL .i64 3) 3 hz3 hj (by omega)
    have c0 : cel b.cells (off + n * 3) = .v (.int .i64 (L[n] 0)) := ae.cel (j := 0) (by omega)
    have c1 : cel b.cells (off + n * 3 + 1) = .v (.int .i64 (L[n] 1)) := ae.cel (j := 1) (by omega)
    have c2 : cel b.cells (off + n * 3 + 2) = .v (.int .i64 (L[n] 2)) := ae.cel (j := 2) (by omega)
    simp only [Nat.add_assoc] at c1 c2
    have hn1 : norefH H.length H := norefH_wf hw (Nat.le_refl _)
    have hn2 : norefs H.length (((L.take n).map mdK).flatMap encK) = true := flat_encK.norefs _ _
    have hl2 : (((L.take n).map mdK).flatMap encK).length = n * 3 := by rw [flat_encK.flen, List.length_map, List.length_take, Nat.min_eq_left (by omega)]
    have hd1 : (H.length + 1 = H.length) = False := eq_false (by omega)
    have hd2 : (i = H.length) = False := eq_false (by omega)
    have hok : okK (mdK L[n]) = true := by
      have := (tkOk_at hv (show n < (L.map mdK).length by simpa using hj)).1
      rwa [List.getElem_map] at this
    have hok2 := hok
    unfold okK at hok2
    simp only [mdK, keyF_0, keyF_1, keyF_2, Bool.and_eq_true] at hok2
    obtain ⟨b0, b1, b2⟩ := hok2
    · skip
      have q := okK_iff.1 hok
      simp only [mdK, keyF_0, keyF_1, keyF_2] at q
      have w0 := wrap_i16 (x := L[n] 0) (by omega) (by omega)
      have w1 := wrap_i8 (x := L[n] 1) (by omega) (by omega)
      have w2 := wrap_i8 (x := L[n] 2) (by omega) (by omega)
      repeat (first | (simp only [go_sem, Int.reduceLT, Int.reduceLE, Int.reduceEq, Int.reduceToNat, hL, hc, hat.get, g2, hat.live, hlt, af, c0, c1, c2, b0, b1, b2, w0, w1, w2, hn1, hn2, hl2, hd1, hd2, hx]) | ((with_reducible refine And.intro ?_ ?_); omega) | ((with_reducible refine isSK ?_); first | (refine call_ret (l03Tick) (by simp only [go_sem, Int.reduceLT, Int.reduceLE, Int.reduceEq, Int.reduceToNat, hL, hc, hat.get, g2, hat.live, hlt, af, c0, c1, c2, b0, b1, b2, w0, w1, w2, hn1, hn2, hl2, hd1, hd2, hx]) ?_) | (refine call_ret (l03Reach) (by simp only [go_sem, Int.reduceLT, Int.reduceLE, Int.reduceEq, Int.reduceToNat, hL, hc, hat.get, g2, hat.live, hlt, af, c0, c1, c2, b0, b1, b2, w0, w1, w2, hn1, hn2, hl2, hd1, hd2, hx]) ?_)) | ((with_reducible refine isMC ?_); first | (refine mcall_ret (l03Tick) (by simp only [go_sem, Int.reduceLT, Int.reduceLE, Int.reduceEq, Int.reduceToNat, hL, hc, hat.get, g2, hat.live, hlt, af, c0, c1, c2, b0, b1, b2, w0, w1, w2, hn1, hn2, hl2, hd1, hd2, hx]) (by simp only [go_sem, Int.reduceLT, Int.reduceLE, Int.reduceEq, Int.reduceToNat, hL, hc, hat.get, g2, hat.live, hlt, af, c0, c1, c2, b0, b1, b2, w0, w1, w2, hn1, hn2, hl2, hd1, hd2, hx]) ?_) | (refine mcall_ret (l03Reach) (by simp only [go_sem, Int.reduceLT, Int.reduceLE, Int.reduceEq, Int.reduceToNat, hL, hc, hat.get, g2, hat.live, hlt, af, c0, c1, c2, b0, b1, b2, w0, w1, w2, hn1, hn2, hl2, hd1, hd2, hx]) (by simp only [go_sem, Int.reduceLT, Int.reduceLE, Int.reduceEq, Int.reduceToNat, hL, hc, hat.get, g2, hat.live, hlt, af, c0, c1, c2, b0, b1, b2, w0, w1, w2, hn1, hn2, hl2, hd1, hd2, hx]) ?_)) | ((with_reducible refine isWKr (id := 7) ?_); refine WK_drawUp 7 [[],[],[],[1,2],[1,2,3],[1,2,3,4],[1,2,3,4,5],[],[],[7,8],[7,8,9],[7,8,9,10],[7,8,9,10,11],[],[],[13,14],[13,14,15],[13,14,15,16],[13,14,15,16,17],[1,2,3,4,5,6,7,8,9,10,11,12,13,14,15,16,17,18],[1,2,3,4,5,6,7,8,9,10,11,12,13,14,15,16,17,18,19],[0,1,2,3,4,5,6,7,8,9,10,11,12,13,14,15,16,17,18,19,20],[0,1,2,3,4,5,6,7,8,9,10,11,12,13,14,15,16,17,18,19,20,21]] 21 (by kernel_rfl) ?_; dsimp only [List.take, List.drop]) | ((with_reducible refine And.intro ?_ ?_); first | (with_reducible rfl) | assumption | (simp only [go_sem]; done)))
      refine EK_again (n + 1) ?_ (by omega) (by omega)
      rw [map_take' _ _ _ hj, flat_snoc, ← mdK_enc]
      exact Weak.keepN rfl (by simp [go_sem] <;> omega) (by simp [hx]) (by simp [go_sem, flat_encK.lts, hlt] <;> omega) (hw.app (by simp [go_sem, flat_encK.lts, hlt] <;> omega))
  · have : n = L.length := by omega
    subst this
    rw [List.take_length]
    repeat (first | (simp only [go_sem, Int.reduceLT, Int.reduceLE, Int.reduceEq, Int.reduceToNat, hL, Int.not_lt.2 hc, hv]) | ((with_reducible refine And.intro ?_ ?_); omega) | ((with_reducible refine isSK ?_); first | (refine call_ret (l03Ok (l := L.map mdK) (Rd.own0 rfl rfl (by simp)) hK (by rw [List.length_map]; omega)) (by simp only [go_sem, Int.reduceLT, Int.reduceLE, Int.reduceEq, Int.reduceToNat, hL, Int.not_lt.2 hc, hv]) ?_)) | ((with_reducible refine isMC ?_); first | (refine mcall_ret (l03Ok (l := L.map mdK) (Rd.own0 rfl rfl (by simp)) hK (by rw [List.length_map]; omega)) (by simp only [go_sem, Int.reduceLT, Int.reduceLE, Int.reduceEq, Int.reduceToNat, hL, Int.not_lt.2 hc, hv]) (by simp only [go_sem, Int.reduceLT, Int.reduceLE, Int.reduceEq, Int.reduceToNat, hL, Int.not_lt.2 hc, hv]) ?_)) | ((with_reducible refine isWKr (id := 7) ?_); refine WK_drawUp 7 [[],[],[],[1,2],[1,2,3],[1,2,3,4],[1,2,3,4,5],[],[],[7,8],[7,8,9],[7,8,9,10],[7,8,9,10,11],[],[],[13,14],[13,14,15],[13,14,15,16],[13,14,15,16,17],[1,2,3,4,5,6,7,8,9,10,11,12,13,14,15,16,17,18],[1,2,3,4,5,6,7,8,9,10,11,12,13,14,15,16,17,18,19],[0,1,2,3,4,5,6,7,8,9,10,11,12,13,14,15,16,17,18,19,20],[0,1,2,3,4,5,6,7,8,9,10,11,12,13,14,15,16,17,18,19,20,21]] 21 (by kernel_rfl) ?_; dsimp only [List.take, List.drop]) | ((with_reducible refine And.intro ?_ ?_); first | (with_reducible rfl) | assumption | (simp only [go_sem]; done)))
    refine ret_at hq _ (.inl rfl) (by simp) ?_
    simp [go_sem]

theorem l03Made_bad {H : List Blk} {v : V} {L : List (Nat → Int)} (h : Rd H v (rowL .i64 3) L) (hl : L.length ≤ 1000000) (hv : tkOk (L.map mdK) = false) :
    Cal Tryd.prog 42 [v] H fun u H' => u = .t [.s H.length 0 0 (.u 0), .v (.int .i64 3)] ∧ H' = H ++ [⟨[], 51, .own 3⟩] := by
  have hsol := h.solid
  have hL := h.lenV (P := Tryd.prog) slTy60
  refine cal_fn 65 mixed Tryd.func42 Tryd.ntmps42 Tryd.results42 rfl rfl rfl fun hw cx hx hq => ?_
  repeat (first | (simp only [go_sem, Int.reduceLT, Int.reduceLE, Int.reduceEq, Int.reduceToNat, hsol, hL]) | ((with_reducible refine And.intro ?_ ?_); omega) | ((with_reducible refine isWKr (id := 7) ?_); refine WK_drawUp 7 [[],[],[],[1,2],[1,2,3],[1,2,3,4],[1,2,3,4,5],[],[],[7,8],[7,8,9],[7,8,9,10],[7,8,9,10,11],[],[],[13,14],[13,14,15],[13,14,15,16],[13,14,15,16,17],[1,2,3,4,5,6,7,8,9,10,11,12,13,14,15,16,17,18],[1,2,3,4,5,6,7,8,9,10,11,12,13,14,15,16,17,18,19],[0,1,2,3,4,5,6,7,8,9,10,11,12,13,14,15,16,17,18,19,20],[0,1,2,3,4,5,6,7,8,9,10,11,12,13,14,15,16,17,18,19,20,21]] 21 (by kernel_rfl) ?_; dsimp only [List.take, List.drop]) | ((with_reducible refine And.intro ?_ ?_); first | (with_reducible rfl) | assumption | (simp only [go_sem]; done)))
  refine WK_for (fun n : Nat => ⟨[v, .any, .any, .any, .s H.length 0 n (.u 0), .v (.int .i64 n)] ++ junk 60, H ++ [⟨((L.take n).map mdK).flatMap encK, 51, .own 3⟩]⟩) (fun n => n ≤ L.length ∧ ∀ a ∈ (L.take n).map mdK, okK a = true) (fun n => L.length - n) 0 (Weak.slots ?_) ?_ fun n hn => ?_
  · simp [go_sem]
  · simp
  rcases Int.lt_or_le (n : Int) L.length with hc | hc
  · skip
    have hj : n < L.length := by omega
    obtain ⟨i, off, c, b, rfl, hat, hfit⟩ := h.full (by omega)
    have hlt := hat.lt
    have g2 : ∀ L : List Blk, (H ++ L)[i]? = some b := fun L => get_app hat.get
    have ae := hat.el hz3 hj
    have af := hat.fits (rowL .i64 3) 3 hz3 hj (by omega)
    have c0 : cel b.cells (off + n * 3) = .v (.int .i64 (L[n] 0)) := ae.cel (j := 0) (by omega)
    have c1 : cel b.cells (off + n * 3 + 1) = .v (.int .i64 (L[n] 1)) := ae.cel (j := 1) (by omega)
    have c2 : cel b.cells (off + n * 3 + 2) = .v (.int .i64 (L[n] 2)) := ae.cel (j := 2) (by omega)
    simp only [Nat.add_assoc] at c1 c2
    have hn1 : norefH H.length H := norefH_wf hw (Nat.le_refl _)
    have hn2 : norefs H.length (((L.take n).map mdK).flatMap encK) = true := flat_encK.norefs _ _
    have hl2 : (((L.take n).map mdK).flatMap encK).length = n * 3 := by rw [flat_encK.flen, List.length_map, List.length_take, Nat.min_eq_left (by omega)]
    have hd1 : (H.length + 1 = H.length) = False := eq_false (by omega)
    have hd2 : (i = H.length) = False := eq_false (by omega)
    cases b0 : inB 0 200 (L[n] 0)
    · repeat (first | (simp only [go_sem, Int.reduceLT, Int.reduceLE, Int.reduceEq, Int.reduceToNat, hL, hc, hat.get, g2, hat.live, hlt, af, c0, c1, c2, b0]) | ((with_reducible refine And.intro ?_ ?_); omega) | ((with_reducible refine isSK ?_); first | (refine call_ret (l03Tick) (by simp only [go_sem, Int.reduceLT, Int.reduceLE, Int.reduceEq, Int.reduceToNat, hL, hc, hat.get, g2, hat.live, hlt, af, c0, c1, c2, b0]) ?_) | (refine call_ret (l03Reach) (by simp only [go_sem, Int.reduceLT, Int.reduceLE, Int.reduceEq, Int.reduceToNat, hL, hc, hat.get, g2, hat.live, hlt, af, c0, c1, c2, b0]) ?_)) | ((with_reducible refine isMC ?_); first | (refine mcall_ret (l03Tick) (by simp only [go_sem, Int.reduceLT, Int.reduceLE, Int.reduceEq, Int.reduceToNat, hL, hc, hat.get, g2, hat.live, hlt, af, c0, c1, c2, b0]) (by simp only [go_sem, Int.reduceLT, Int.reduceLE, Int.reduceEq, Int.reduceToNat, hL, hc, hat.get, g2, hat.live, hlt, af, c0, c1, c2, b0]) ?_) | (refine mcall_ret (l03Reach) (by simp only [go_sem, Int.reduceLT, Int.reduceLE, Int.reduceEq, Int.reduceToNat, hL, hc, hat.get, g2, hat.live, hlt, af, c0, c1, c2, b0]) (by simp only [go_sem, Int.reduceLT, Int.reduceLE, Int.reduceEq, Int.reduceToNat, hL, hc, hat.get, g2, hat.live, hlt, af, c0, c1, c2, b0]) ?_)) | ((with_reducible refine isWKr (id := 7) ?_); refine WK_drawUp 7 [[],[],[],[1,2],[1,2,3],[1,2,3,4],[1,2,3,4,5],[],[],[7,8],[7,8,9],[7,8,9,10],[7,8,9,10,11],[],[],[13,14],[13,14,15],[13,14,15,16],[13,14,15,16,17],[1,2,3,4,5,6,7,8,9,10,11,12,13,14,15,16,17,18],[1,2,3,4,5,6,7,8,9,10,11,12,13,14,15,16,17,18,19],[0,1,2,3,4,5,6,7,8,9,10,11,12,13,14,15,16,17,18,19,20],[0,1,2,3,4,5,6,7,8,9,10,11,12,13,14,15,16,17,18,19,20,21]] 21 (by kernel_rfl) ?_; dsimp only [List.take, List.drop]) | ((with_reducible refine And.intro ?_ ?_); first | (with_reducible rfl) | assumption | (simp only [go_sem]; done)))
      refine ret_one hq hw _ (.inl rfl) 1 rfl (by simp [go_sem]) (.t [.s H.length 0 0 (.u 0), .v (.int .i64 3)]) (by simp [go_sem]) ?_
      simp [go_sem, conc, concs, upσ, Cap.val]
    cases b1 : inB (-24) 24 (L[n] 1)
    · repeat (first | (simp only [go_sem, Int.reduceLT, Int.reduceLE, Int.reduceEq, Int.reduceToNat, hL, hc, hat.get, g2, hat.live, hlt, af, c0, c1, c2, b0, b1]) | ((with_reducible refine And.intro ?_ ?_); omega) | ((with_reducible refine isSK ?_); first | (refine call_ret (l03Tick) (by simp only [go_sem, Int.reduceLT, Int.reduceLE, Int.reduceEq, Int.reduceToNat, hL, hc, hat.get, g2, hat.live, hlt, af, c0, c1, c2, b0, b1]) ?_) | (refine call_ret (l03Reach) (by simp only [go_sem, Int.reduceLT, Int.reduceLE, Int.reduceEq, Int.reduceToNat, hL, hc, hat.get, g2, hat.live, hlt, af, c0, c1, c2, b0, b1]) ?_)) | ((with_reducible refine isMC ?_); first | (refine mcall_ret (l03Tick) (by simp only [go_sem, Int.reduceLT, Int.reduceLE, Int.reduceEq, Int.reduceToNat, hL, hc, hat.get, g2, hat.live, hlt, af, c0, c1, c2, b0, b1]) (by simp only [go_sem, Int.reduceLT, Int.reduceLE, Int.reduceEq, Int.reduceToNat, hL, hc, hat.get, g2, hat.live, hlt, af, c0, c1, c2, b0, b1]) ?_) | (refine mcall_ret (l03Reach) (by simp only [go_sem, Int.reduceLT, Int.reduceLE, Int.reduceEq, Int.reduceToNat, hL, hc, hat.get, g2, hat.live, hlt, af, c0, c1, c2, b0, b1]) (by simp only [go_sem, Int.reduceLT, Int.reduceLE, Int.reduceEq, Int.reduceToNat, hL, hc, hat.get, g2, hat.live, hlt, af, c0, c1, c2, b0, b1]) ?_)) | ((with_reducible refine isWKr (id := 7) ?_); refine WK_drawUp 7 [[],[],[],[1,2],[1,2,3],[1,2,3,4],[1,2,3,4,5],[],[],[7,8],[7,8,9],[7,8,9,10],[7,8,9,10,11],[],[],[13,14],[13,14,15],[13,14,15,16],[13,14,15,16,17],[1,2,3,4,5,6,7,8,9,10,11,12,13,14,15,16,17,18],[1,2,3,4,5,6,7,8,9,10,11,12,13,14,15,16,17,18,19],[0,1,2,3,4,5,6,7,8,9,10,11,12,13,14,15,16,17,18,19,20],[0,1,2,3,4,5,6,7,8,9,10,11,12,13,14,15,16,17,18,19,20,21]] 21 (by kernel_rfl) ?_; dsimp only [List.take, List.drop]) | ((with_reducible refine And.intro ?_ ?_); first | (with_reducible rfl) | assumption | (simp only [go_sem]; done)))
      refine ret_one hq hw _ (.inl rfl) 1 rfl (by simp [go_sem]) (.t [.s H.length 0 0 (.u 0), .v (.int .i64 3)]) (by simp [go_sem]) ?_
      simp [go_sem, conc, concs, upσ, Cap.val]
    cases b2 : inB (-24) 24 (L[n] 2)
    · repeat (first | (simp only [go_sem, Int.reduceLT, Int.reduceLE, Int.reduceEq, Int.reduceToNat, hL, hc, hat.get, g2, hat.live, hlt, af, c0, c1, c2, b0, b1, b2]) | ((with_reducible refine And.intro ?_ ?_); omega) | ((with_reducible refine isSK ?_); first | (refine call_ret (l03Tick) (by simp only [go_sem, Int.reduceLT, Int.reduceLE, Int.reduceEq, Int.reduceToNat, hL, hc, hat.get, g2, hat.live, hlt, af, c0, c1, c2, b0, b1, b2]) ?_) | (refine call_ret (l03Reach) (by simp only [go_sem, Int.reduceLT, Int.reduceLE, Int.reduceEq, Int.reduceToNat, hL, hc, hat.get, g2, hat.live, hlt, af, c0, c1, c2, b0, b1, b2]) ?_)) | ((with_reducible refine isMC ?_); first | (refine mcall_ret (l03Tick) (by simp only [go_sem, Int.reduceLT, Int.reduceLE, Int.reduceEq, Int.reduceToNat, hL, hc, hat.get, g2, hat.live, hlt, af, c0, c1, c2, b0, b1, b2]) (by simp only [go_sem, Int.reduceLT, Int.reduceLE, Int.reduceEq, Int.reduceToNat, hL, hc, hat.get, g2, hat.live, hlt, af, c0, c1, c2, b0, b1, b2]) ?_) | (refine mcall_ret (l03Reach) (by simp only [go_sem, Int.reduceLT, Int.reduceLE, Int.reduceEq, Int.reduceToNat, hL, hc, hat.get, g2, hat.live, hlt, af, c0, c1, c2, b0, b1, b2]) (by simp only [go_sem, Int.reduceLT, Int.reduceLE, Int.reduceEq, Int.reduceToNat, hL, hc, hat.get, g2, hat.live, hlt, af, c0, c1, c2, b0, b1, b2]) ?_)) | ((with_reducible refine isWKr (id := 7) ?_); refine WK_drawUp 7 [[],[],[],[1,2],[1,2,3],[1,2,3,4],[1,2,3,4,5],[],[],[7,8],[7,8,9],[7,8,9,10],[7,8,9,10,11],[],[],[13,14],[13,14,15],[13,14,15,16],[13,14,15,16,17],[1,2,3,4,5,6,7,8,9,10,11,12,13,14,15,16,17,18],[1,2,3,4,5,6,7,8,9,10,11,12,13,14,15,16,17,18,19],[0,1,2,3,4,5,6,7,8,9,10,11,12,13,14,15,16,17,18,19,20],[0,1,2,3,4,5,6,7,8,9,10,11,12,13,14,15,16,17,18,19,20,21]] 21 (by kernel_rfl) ?_; dsimp only [List.take, List.drop]) | ((with_reducible refine And.intro ?_ ?_); first | (with_reducible rfl) | assumption | (simp only [go_sem]; done)))
      refine ret_one hq hw _ (.inl rfl) 1 rfl (by simp [go_sem]) (.t [.s H.length 0 0 (.u 0), .v (.int .i64 3)]) (by simp [go_sem]) ?_
      simp [go_sem, conc, concs, upσ, Cap.val]
    have hok : okK (mdK L[n]) = true := by unfold okK; simp only [mdK, keyF_0, keyF_1, keyF_2, b0, b1, b2]; rfl
    · skip
      have q := okK_iff.1 hok
      simp only [mdK, keyF_0, keyF_1, keyF_2] at q
      have w0 := wrap_i16 (x := L[n] 0) (by omega) (by omega)
      have w1 := wrap_i8 (x := L[n] 1) (by omega) (by omega)
      have w2 := wrap_i8 (x := L[n] 2) (by omega) (by omega)
      repeat (first | (simp only [go_sem, Int.reduceLT, Int.reduceLE, Int.reduceEq, Int.reduceToNat, hL, hc, hat.get, g2, hat.live, hlt, af, c0, c1, c2, b0, b1, b2, w0, w1, w2, hn1, hn2, hl2, hd1, hd2, hx]) | ((with_reducible refine And.intro ?_ ?_); omega) | ((with_reducible refine isSK ?_); first | (refine call_ret (l03Tick) (by simp only [go_sem, Int.reduceLT, Int.reduceLE, Int.reduceEq, Int.reduceToNat, hL, hc, hat.get, g2, hat.live, hlt, af, c0, c1, c2, b0, b1, b2, w0, w1, w2, hn1, hn2, hl2, hd1, hd2, hx]) ?_) | (refine call_ret (l03Reach) (by simp only [go_sem, Int.reduceLT, Int.reduceLE, Int.reduceEq, Int.reduceToNat, hL, hc, hat.get, g2, hat.live, hlt, af, c0, c1, c2, b0, b1, b2, w0, w1, w2, hn1, hn2, hl2, hd1, hd2, hx]) ?_)) | ((with_reducible refine isMC ?_); first | (refine mcall_ret (l03Tick) (by simp only [go_sem, Int.reduceLT, Int.reduceLE, Int.reduceEq, Int.reduceToNat, hL, hc, hat.get, g2, hat.live, hlt, af, c0, c1, c2, b0, b1, b2, w0, w1, w2, hn1, hn2, hl2, hd1, hd2, hx]) (by simp only [go_sem, Int.reduceLT, Int.reduceLE, Int.reduceEq, Int.reduceToNat, hL, hc, hat.get, g2, hat.live, hlt, af, c0, c1, c2, b0, b1, b2, w0, w1, w2, hn1, hn2, hl2, hd1, hd2, hx]) ?_) | (refine mcall_ret (l03Reach) (by simp only [go_sem, Int.reduceLT, Int.reduceLE, Int.reduceEq, Int.reduceToNat, hL, hc, hat.get, g2, hat.live, hlt, af, c0, c1, c2, b0, b1, b2, w0, w1, w2, hn1, hn2, hl2, hd1, hd2, hx]) (by simp only [go_sem, Int.reduceLT, Int.reduceLE, Int.reduceEq, Int.reduceToNat, hL, hc, hat.get, g2, hat.live, hlt, af, c0, c1, c2, b0, b1, b2, w0, w1, w2, hn1, hn2, hl2, hd1, hd2, hx]) ?_)) | ((with_reducible refine isWKr (id := 7) ?_); refine WK_drawUp 7 [[],[],[],[1,2],[1,2,3],[1,2,3,4],[1,2,3,4,5],[],[],[7,8],[7,8,9],[7,8,9,10],[7,8,9,10,11],[],[],[13,14],[13,14,15],[13,14,15,16],[13,14,15,16,17],[1,2,3,4,5,6,7,8,9,10,11,12,13,14,15,16,17,18],[1,2,3,4,5,6,7,8,9,10,11,12,13,14,15,16,17,18,19],[0,1,2,3,4,5,6,7,8,9,10,11,12,13,14,15,16,17,18,19,20],[0,1,2,3,4,5,6,7,8,9,10,11,12,13,14,15,16,17,18,19,20,21]] 21 (by kernel_rfl) ?_; dsimp only [List.take, List.drop]) | ((with_reducible refine And.intro ?_ ?_); first | (with_reducible rfl) | assumption | (simp only [go_sem]; done)))
      refine EK_again (n + 1) ?_ ⟨by omega, fun a ha => by
        rw [map_take' _ _ _ hj] at ha
        rcases List.mem_append.1 ha with ha | ha
        · exact hn.2 a ha
        · rw [List.mem_singleton.1 ha]; exact hok⟩ (by omega)
      rw [map_take' _ _ _ hj, flat_snoc, ← mdK_enc]
      exact Weak.keepN rfl (by simp [go_sem] <;> omega) (by simp [hx]) (by simp [go_sem, flat_encK.lts, hlt] <;> omega) (hw.app (by simp [go_sem, flat_encK.lts, hlt] <;> omega))
  · have : n = L.length := by omega
    subst this
    rw [List.take_length] at hn
    rw [List.take_length]
    have hK : ∀ a ∈ L.map mdK, KyW a := fun a ha => okK_KyW (hn.2 a ha)
    · repeat (first | (simp only [go_sem, Int.reduceLT, Int.reduceLE, Int.reduceEq, Int.reduceToNat, hL, Int.not_lt.2 hc, hv]) | ((with_reducible refine And.intro ?_ ?_); omega) | ((with_reducible refine isSK ?_); first | (refine call_ret (l03Ok (l := L.map mdK) (Rd.own0 rfl rfl (by simp)) hK (by rw [List.length_map]; omega)) (by simp only [go_sem, Int.reduceLT, Int.reduceLE, Int.reduceEq, Int.reduceToNat, hL, Int.not_lt.2 hc, hv]) ?_)) | ((with_reducible refine isMC ?_); first | (refine mcall_ret (l03Ok (l := L.map mdK) (Rd.own0 rfl rfl (by simp)) hK (by rw [List.length_map]; omega)) (by simp only [go_sem, Int.reduceLT, Int.reduceLE, Int.reduceEq, Int.reduceToNat, hL, Int.not_lt.2 hc, hv]) (by simp only [go_sem, Int.reduceLT, Int.reduceLE, Int.reduceEq, Int.reduceToNat, hL, Int.not_lt.2 hc, hv]) ?_)) | ((with_reducible refine isWKr (id := 7) ?_); refine WK_drawUp 7 [[],[],[],[1,2],[1,2,3],[1,2,3,4],[1,2,3,4,5],[],[],[7,8],[7,8,9],[7,8,9,10],[7,8,9,10,11],[],[],[13,14],[13,14,15],[13,14,15,16],[13,14,15,16,17],[1,2,3,4,5,6,7,8,9,10,11,12,13,14,15,16,17,18],[1,2,3,4,5,6,7,8,9,10,11,12,13,14,15,16,17,18,19],[0,1,2,3,4,5,6,7,8,9,10,11,12,13,14,15,16,17,18,19,20],[0,1,2,3,4,5,6,7,8,9,10,11,12,13,14,15,16,17,18,19,20,21]] 21 (by kernel_rfl) ?_; dsimp only [List.take, List.drop]) | ((with_reducible refine And.intro ?_ ?_); first | (with_reducible rfl) | assumption | (simp only [go_sem]; done)))
      refine ret_one hq hw _ (.inl rfl) 1 rfl (by simp [go_sem]) (.t [.s H.length 0 0 (.u 0), .v (.int .i64 3)]) (by simp [go_sem]) ?_
      simp [go_sem, conc, concs, upσ, Cap.val]

theorem keyAt {H : List Blk} {t x y : Int} (ht : -32768 ≤ t ∧ t ≤ 32767) (hx0 : -128 ≤ x ∧ x ≤ 127) (hy : -128 ≤ y ∧ y ≤ 127) : Cal Tryd.prog 44 [.v (.int .i64 t), .v (.int .i64 x), .v (.int .i64 y)] H fun u H' => u = .a (encK (keyF t x y)) ∧ H' = H := by
  have w1 := wrap_i16 ht.1 ht.2
  have w2 := wrap_i8 hx0.1 hx0.2
  have w3 := wrap_i8 hy.1 hy.2
  refine cal_fn 11 mixed Tryd.func44 Tryd.ntmps44 Tryd.results44 rfl rfl rfl fun hw cx hx hq => ?_
  repeat (first | (simp only [go_sem, Int.reduceLT, Int.reduceLE, Int.reduceEq, Int.reduceToNat, w1, w2, w3]) | ((with_reducible refine And.intro ?_ ?_); omega) | ((with_reducible refine And.intro ?_ ?_); first | (with_reducible rfl) | assumption | (simp only [go_sem]; done)))
  refine ret_cut hq hw _ (.inl rfl) ?_
  simp [go_sem, encK, keyF]
end Go.Proofs.YtpjimhkblldhaaaDoor

