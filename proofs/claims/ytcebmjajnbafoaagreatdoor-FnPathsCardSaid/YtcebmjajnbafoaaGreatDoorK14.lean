/- Contracts of functions of the translated program, by the walk. -/
import Derived.Test.YtcebmjajnbafoaaGreatDoorK9
set_option linter.unusedVariables false
set_option linter.unusedSimpArgs false
set_option maxRecDepth 8000
set_option maxHeartbeats 16000000
namespace Go.Proofs.YtcebmjajnbafoaaGreatDoor
open Go Go.Sx
/-- A key of three numbers as they stand. -/
def mdK (f : Nat → Int) : Nat → Int := keyF (f 0) (f 1) (f 2)
theorem mdK_enc (f : Nat → Int) : ([.v (.int .i16 (f 0)), .v (.int .i8 (f 1)), .v (.int .i8 (f 2))] : List V) = encK (mdK f) := rfl
theorem row3 (f : Nat → Int) : rowL .i64 3 f = [.v (.int .i64 (f 0)), .v (.int .i64 (f 1)), .v (.int .i64 (f 2))] := rfl
theorem okK_KyW {a : Nat → Int} (h : okK a = true) : KyW a := by
  have := okK_iff.1 h
  exact ⟨by omega, by omega, by omega⟩
theorem hz3 : ∀ x : Nat → Int, (rowL .i64 3 x).length = 3 := fun _ => rowL_length ..
theorem map_take' {α β : Type} (f : α → β) (l : List α) (n : Nat) (h : n < l.length) : (l.take (n + 1)).map f = (l.take n).map f ++ [f l[n]] := by
  rw [List.take_succ_eq_append_getElem h, List.map_append]; rfl
theorem kAt_map {L : List (Nat → Int)} {n : Nat} (h : n < L.length) : kAt (L.map mdK) n = mdK L[n] := by rw [kAt_at (by simpa using h), List.getElem_map]

theorem l03Made_ok {H : List Blk} {v : V} {L : List (Nat → Int)} (h : Rd H v (rowL .i64 3) L) (hv : tkOk (L.map mdK) = true) :
    Cal Tryz.prog 64 [v] H fun u H' => u = .t [.s H.length 0 L.length (.u 0), .v (.int .i64 0)] ∧ H' = H ++ [⟨(L.map mdK).flatMap encK, 42, .own 3⟩] := by
  have hsol := h.solid
  have hL := h.lenV (P := Tryz.prog) slTy81
  have hlen := tkOk_len hv
  rw [List.length_map] at hlen
  have hK : ∀ a ∈ L.map mdK, KyW a := fun a ha => by
    obtain ⟨j, hj, rfl⟩ := List.mem_iff_getElem.1 ha
    exact okK_KyW (tkOk_at hv hj).1
  refine cal_fn 65 mixed Tryz.func64 Tryz.ntmps64 Tryz.results64 rfl rfl rfl fun hw cx hx hq => ?_
  repeat (first | (simp only [go_sem, Int.reduceLT, Int.reduceLE, Int.reduceEq, Int.reduceToNat, hsol, hL]) | ((with_reducible refine And.intro ?_ ?_); omega) | ((with_reducible refine isWKr (id := 7) ?_); refine WK_drawUp 7 [[],[],[],[1,2],[1,2,3],[1,2,3,4],[1,2,3,4,5],[],[],[7,8],[7,8,9],[7,8,9,10],[7,8,9,10,11],[],[],[13,14],[13,14,15],[13,14,15,16],[13,14,15,16,17],[1,2,3,4,5,6,7,8,9,10,11,12,13,14,15,16,17,18],[1,2,3,4,5,6,7,8,9,10,11,12,13,14,15,16,17,18,19],[0,1,2,3,4,5,6,7,8,9,10,11,12,13,14,15,16,17,18,19,20],[0,1,2,3,4,5,6,7,8,9,10,11,12,13,14,15,16,17,18,19,20,21]] 21 (by kernel_rfl) ?_; dsimp only [List.take, List.drop]) | ((with_reducible refine And.intro ?_ ?_); first | (with_reducible rfl) | assumption | (simp only [go_sem]; done)))
  refine WK_for (fun n : Nat => ⟨[v, .any, .any, .any, .s H.length 0 n (.u 0), .v (.int .i64 n)] ++ junk 60, H ++ [⟨((L.take n).map mdK).flatMap encK, 42, .own 3⟩]⟩) (fun n => n ≤ L.length) (fun n => L.length - n) 0 (Weak.slots ?_) ?_ fun n hn => ?_
  · simp [go_sem]
  · simp
  rcases Int.lt_or_le (n : Int) L.length with hc | hc
  · skip
    have hj : n < L.length := by omega
    obtain ⟨i, off, c, b, rfl, hat, hfit⟩ := h.full (by omega)
    have hlt := hat.lt
    have g2 : ∀ L : List Blk, (H ++ L)[i]? = some b := fun L => get_app hat.get
    have ae := hat.el hz3 hj
    have af := hat.fits (rowL .i64 3) 3 hz3 hj (by omega)
    have c0 : cel b.cells (off + n * 3) = .v (.int .i64 (L[n] 0)) := ae.cel (j := 0) (by omega)
    have c1 : cel b.cells (off + n * 3 + 1) = .v (.int .i64 (L[n] 1)) := ae.cel (j := 1) (by omega)
    have c2 : cel b.cells (off + n * 3 + 2) = .v (.int .i64 (L[n] 2)) := ae.cel (j := 2) (by omega)
    simp only [Nat.add_assoc] at c1 c2
    have hn1 : norefH H.length H := norefH_wf hw (Nat.le_refl _)
    have hn2 : norefs H.length (((L.take n).map mdK).flatMap encK) = true := flat_encK.norefs _ _
    have hl2 : (((L.take n).map mdK).flatMap encK).length = n * 3 := by rw [flat_encK.flen, List.length_map, List.length_take, Nat.min_eq_left (by omega)]
    have hd1 : (H.length + 1 = H.length) = False := eq_false (by omega)
    have hd2 : (i = H.length) = False := eq_false (by omega)
    have hok : okK (mdK L[n]) = true := by
      have := (tkOk_at hv (show n < (L.map mdK).length by simpa using hj)).1
      rwa [List.getElem_map] at this
    have hok2 := hok
    unfold okK at hok2
    simp only [mdK, keyF_0, keyF_1, keyF_2, Bool.and_eq_true] at hok2
    obtain ⟨b0, b1, b2⟩ := hok2
    · skip
      have q := okK_iff.1 hok
      simp only [mdK, keyF_0, keyF_1, keyF_2] at q
      have w0 := wrap_i16 (x := L[n] 0) (by omega) (by omega)
      have w1 := wrap_i8 (x := L[n] 1) (by omega) (by omega)
      have w2 := wrap_i8 (x := L[n] 2) (by omega) (by omega)
      repeat (first | (simp only [go_sem, Int.reduceLT, Int.reduceLE, Int.reduceEq, Int.reduceToNat, hL, hc, hat.get, g2, hat.live, hlt, af, c0, c1, c2, b0, b1, b2, w0, w1, w2, hn1, hn2, hl2, hd1, hd2, hx]) | ((with_reducible refine And.intro ?_ ?_); omega) | ((with_reducible refine isSK ?_); first | (refine call_ret (l03Tick) (by simp only [go_sem, Int.reduceLT, Int.reduceLE, Int.reduceEq, Int.reduceToNat, hL, hc, hat.get, g2, hat.live, hlt, af, c0, c1, c2, b0, b1, b2, w0, w1, w2, hn1, hn2, hl2, hd1, hd2, hx]) ?_) | (refine call_ret (l03Reach) (by simp only [go_sem, Int.reduceLT, Int.reduceLE, Int.reduceEq, Int.reduceToNat, hL, hc, hat.get, g2, hat.live, hlt, af, c0, c1, c2, b0, b1, b2, w0, w1, w2, hn1, hn2, hl2, hd1, hd2, hx]) ?_)) | ((with_reducible refine isMC ?_); first | (refine mcall_ret (l03Tick) (by simp only [go_sem, Int.reduceLT, Int.reduceLE, Int.reduceEq, Int.reduceToNat, hL, hc, hat.get, g2, hat.live, hlt, af, c0, c1, c2, b0, b1, b2, w0, w1, w2, hn1, hn2, hl2, hd1, hd2, hx]) (by simp only [go_sem, Int.reduceLT, Int.reduceLE, Int.reduceEq, Int.reduceToNat, hL, hc, hat.get, g2, hat.live, hlt, af, c0, c1, c2, b0, b1, b2, w0, w1, w2, hn1, hn2, hl2, hd1, hd2, hx]) ?_) | (refine mcall_ret (l03Reach) (by simp only [go_sem, Int.reduceLT, Int.reduceLE, Int.reduceEq, Int.reduceToNat, hL, hc, hat.get, g2, hat.live, hlt, af, c0, c1, c2, b0, b1, b2, w0, w1, w2, hn1, hn2, hl2, hd1, hd2, hx]) (by simp only [go_sem, Int.reduceLT, Int.reduceLE, Int.reduceEq, Int.reduceToNat, hL, hc, hat.get, g2, hat.live, hlt, af, c0, c1, c2, b0, b1, b2, w0, w1, w2, hn1, hn2, hl2, hd1, hd2, hx]) ?_)) | ((with_reducible refine isWKr (id := 7) ?_); refine WK_drawUp 7 [[],[],[],[1,2],[1,2,3],[1,2,3,4],[1,2,3,4,5],[],[],[7,8],[7,8,9],[7,8,9,10],[7,8,9,10,11],[],[],[13,14],[13,14,15],[13,14,15,16],[13,14,15,16,17],[1,2,3,4,5,6,7,8,9,10,11,12,13,14,15,16,17,18],[1,2,3,4,5,6,7,8,9,10,11,12,13,14,15,16,17,18,19],[0,1,2,3,4,5,6,7,8,9,10,11,12,13,14,15,16,17,18,19,20],[0,1,2,3,4,5,6,7,8,9,10,11,12,13,14,15,16,17,18,19,20,21]] 21 (by kernel_rfl) ?_; dsimp only [List.take, List.drop]) | ((with_reducible refine And.intro ?_ ?_); first | (with_reducible rfl) | assumption | (simp only [go_sem]; done)))
      refine EK_again (n + 1) ?_ (by omega) (by omega)
      rw [map_take' _ _ _ hj, flat_snoc, ← mdK_enc]
      exact Weak.keepN rfl (by simp [go_sem] <;> omega) (by simp [hx]) (by simp [go_sem, flat_encK.lts, hlt] <;> omega) (hw.app (by simp [go_sem, flat_encK.lts, hlt] <;> omega))
  · have : n = L.length := by omega
    subst this
    rw [List.take_length]
    repeat (first | (simp only [go_sem, Int.reduceLT, Int.reduceLE, Int.reduceEq, Int.reduceToNat, hL, Int.not_lt.2 hc, hv]) | ((with_reducible refine And.intro ?_ ?_); omega) | ((with_reducible refine isSK ?_); first | (refine call_ret (l03Ok (l := L.map mdK) (Rd.own0 rfl rfl (by simp)) hK (by rw [List.length_map]; omega)) (by simp only [go_sem, Int.reduceLT, Int.reduceLE, Int.reduceEq, Int.reduceToNat, hL, Int.not_lt.2 hc, hv]) ?_)) | ((with_reducible refine isMC ?_); first | (refine mcall_ret (l03Ok (l := L.map mdK) (Rd.own0 rfl rfl (by simp)) hK (by rw [List.length_map]; omega)) (by simp only [go_sem, Int.reduceLT, Int.reduceLE, Int.reduceEq, Int.reduceToNat, hL, Int.not_lt.2 hc, hv]) (by simp only [go_sem, Int.reduceLT, Int.reduceLE, Int.reduceEq, Int.reduceToNat, hL, Int.not_lt.2 hc, hv]) ?_)) | ((with_reducible refine isWKr (id := 7) ?_); refine WK_drawUp 7 [[],[],[],[1,2],[1,2,3],[1,2,3,4],[1,2,3,4,5],[],[],[7,8],[7,8,9],[7,8,9,10],[7,8,9,10,11],[],[],[13,14],[13,14,15],[13,14,15,16],[13,14,15,16,17],[1,2,3,4,5,6,7,8,9,10,11,12,13,14,15,16,17,18],[1,2,3,4,5,6,7,8,9,10,11,12,13,14,15,16,17,18,19],[0,1,2,3,4,5,6,7,8,9,10,11,12,13,14,15,16,17,18,19,20],[0,1,2,3,4,5,6,7,8,9,10,11,12,13,14,15,16,17,18,19,20,21]] 21 (by kernel_rfl) ?_; dsimp only [List.take, List.drop]) | ((with_reducible refine And.intro ?_ ?_); first | (with_reducible rfl) | assumption | (simp only [go_sem]; done)))
    refine ret_at hq _ (.inl rfl) (by simp) ?_
    simp [go_sem]

theorem l03Numbers {H : List Blk} {a : Nat → Int} (ha : KyW a) : Cal Tryz.prog 63 [.a (encK a)] H fun u H' => u = .a (rowL .i64 3 a) ∧ H' = H := by
  have w1 := ha.t
  have w2 := ha.x
  have w3 := ha.y
  refine cal_fn 12 mixed Tryz.func63 Tryz.ntmps63 Tryz.results63 rfl rfl rfl fun hw cx hx hq => ?_
  repeat (first | (simp only [go_sem, Int.reduceLT, Int.reduceLE, Int.reduceEq, Int.reduceToNat, celK0, celK1, celK2, encK_len]) | ((with_reducible refine And.intro ?_ ?_); omega) | ((with_reducible refine And.intro ?_ ?_); first | (with_reducible rfl) | assumption | (simp only [go_sem]; done)))
  refine ret_cut hq hw _ (.inl rfl) ?_
  simp [go_sem, row3]
theorem keyAt {H : List Blk} {t x y : Int} (ht : -32768 ≤ t ∧ t ≤ 32767) (hx0 : -128 ≤ x ∧ x ≤ 127) (hy : -128 ≤ y ∧ y ≤ 127) : Cal Tryz.prog 36 [.v (.int .i64 t), .v (.int .i64 x), .v (.int .i64 y)] H fun u H' => u = .a (encK (keyF t x y)) ∧ H' = H := by
  have w1 := wrap_i16 ht.1 ht.2
  have w2 := wrap_i8 hx0.1 hx0.2
  have w3 := wrap_i8 hy.1 hy.2
  refine cal_fn 11 mixed Tryz.func36 Tryz.ntmps36 Tryz.results36 rfl rfl rfl fun hw cx hx hq => ?_
  repeat (first | (simp only [go_sem, Int.reduceLT, Int.reduceLE, Int.reduceEq, Int.reduceToNat, w1, w2, w3]) | ((with_reducible refine And.intro ?_ ?_); omega) | ((with_reducible refine And.intro ?_ ?_); first | (with_reducible rfl) | assumption | (simp only [go_sem]; done)))
  refine ret_cut hq hw _ (.inl rfl) ?_
  simp [go_sem, encK, keyF]
/-- Keys moved in time and place. -/
def shL (l : List (Nat → Int)) (t x y : Int) : List (Nat → Int) := l.map fun a => keyF (a 0 + t) (a 1 + x) (a 2 + y)

theorem shifted {H : List Blk} {v : V} {l : List (Nat → Int)} {t x y : Int} (h : Rd H v encK l) (hv : ∀ a ∈ l, okK a = true) (hl : l.length ≤ 1000) (ht : -200 ≤ t ∧ t ≤ 200) (hx0 : -48 ≤ x ∧ x ≤ 48) (hy : -48 ≤ y ∧ y ≤ 48) :
    Cal Tryz.prog 61 [v, .v (.int .i64 t), .v (.int .i64 x), .v (.int .i64 y)] H fun u H' => u = .s H.length 0 l.length (.u 0) ∧ H' = H ++ [⟨(shL l t x y).flatMap encK, 42, .own 3⟩] := by
  have hsol := h.solid
  have hL := h.lenV (P := Tryz.prog) slTy25
  refine cal_fn 36 mixed Tryz.func61 Tryz.ntmps61 Tryz.results61 rfl rfl rfl fun hw cx hx hq => ?_
  repeat (first | (simp only [go_sem, Int.reduceLT, Int.reduceLE, Int.reduceEq, Int.reduceToNat, hsol, hL]) | ((with_reducible refine And.intro ?_ ?_); omega) | ((with_reducible refine And.intro ?_ ?_); first | (with_reducible rfl) | assumption | (simp only [go_sem]; done)))
  refine WK_for (fun n : Nat => ⟨[.any, .v (.int .i64 t), .v (.int .i64 x), .v (.int .i64 y), .any, .any, .any, .any, .any, .s H.length 0 n (.u 0), .any, .any, .any, v, .v (.int .i64 l.length), .v (.int .i64 n)] ++ junk 24, H ++ [⟨(shL (l.take n) t x y).flatMap encK, 42, .own 3⟩]⟩) (fun n => n ≤ l.length) (fun n => l.length - n) 0 (Weak.slots ?_) ?_ fun n hn => ?_
  · simp [go_sem, shL]
  · simp
  rcases Int.lt_or_le (n : Int) l.length with hc | hc
  · have hj : n < l.length := by omega
    obtain ⟨i, off, c, b, rfl, hat, hfit⟩ := h.full (by omega)
    have hlt := hat.lt
    have g2 : ∀ L : List Blk, (H ++ L)[i]? = some b := fun L => get_app hat.get
    have pa := hat.elem encK 3 encK_len hj
    have pf := hat.fits encK 3 encK_len hj (by omega)
    have pk := okK_iff.1 (hv _ (List.getElem_mem hj))
    have hn1 : norefH H.length H := norefH_wf hw (Nat.le_refl _)
    have hn2 : norefs H.length ((shL (l.take n) t x y).flatMap encK) = true := flat_encK.norefs _ _
    have hl2 : ((shL (l.take n) t x y).flatMap encK).length = n * 3 := by rw [flat_encK.flen, shL, List.length_map, List.length_take, Nat.min_eq_left (by omega)]
    have hd1 : (H.length + 1 = H.length) = False := eq_false (by omega)
    have hd2 : (i = H.length) = False := eq_false (by omega)
    have hd3 : (H.length + 2 = H.length) = False := eq_false (by omega)
    repeat (first | (simp only [go_sem, Int.reduceLT, Int.reduceLE, Int.reduceEq, Int.reduceToNat, hL, hc, hat.get, g2, hat.live, hlt, pa, pf, celK0, celK1, celK2, encK_len, hn1, hn2, hl2, hd1, hd2, hd3, hx]) | ((with_reducible refine And.intro ?_ ?_); omega) | ((with_reducible refine isSK ?_); first | (refine call_ret (keyAt (by omega) (by omega) (by omega)) (by simp only [go_sem, Int.reduceLT, Int.reduceLE, Int.reduceEq, Int.reduceToNat, hL, hc, hat.get, g2, hat.live, hlt, pa, pf, celK0, celK1, celK2, encK_len, hn1, hn2, hl2, hd1, hd2, hd3, hx]) ?_)) | ((with_reducible refine And.intro ?_ ?_); first | (with_reducible rfl) | assumption | (simp only [go_sem]; done)))
    refine EK_again (n + 1) ?_ (by omega) (by omega)
    have e1 : shL (l.take (n + 1)) t x y = shL (l.take n) t x y ++ [keyF (l[n] 0 + t) (l[n] 1 + x) (l[n] 2 + y)] := by unfold shL; rw [map_take' _ _ _ hj]
    rw [e1, flat_snoc]
    exact Weak.keepN rfl (by simp [go_sem] <;> omega) (by simp [hx]) (by simp [go_sem, flat_encK.lts, hlt] <;> omega) (hw.app (by simp [go_sem, flat_encK.lts, hlt] <;> omega))
  · have : n = l.length := by omega
    subst this
    rw [List.take_length]
    repeat (first | (simp only [go_sem, Int.reduceLT, Int.reduceLE, Int.reduceEq, Int.reduceToNat, Int.not_lt.2 hc]) | ((with_reducible refine And.intro ?_ ?_); omega) | ((with_reducible refine And.intro ?_ ?_); first | (with_reducible rfl) | assumption | (simp only [go_sem]; done)))
    refine ret_at hq _ (.inl rfl) (by simp) ?_
    simp [go_sem]

end Go.Proofs.YtcebmjajnbafoaaGreatDoor
namespace Go.Proofs.YtcebmjajnbafoaaGreatDoor
open Go Go.Sx
/-- What ShiftTrack answers. -/
def shFine (t x y : Int) : Bool := inB (-200) 200 t && (inB (-48) 48 x && inB (-48) 48 y)
def shC (l : List (Nat → Int)) (t x y : Int) : Int := if tkOk l = true then (if shFine t x y = true then (if tkOk (shL l t x y) = true then 0 else 3) else 2) else 1
theorem shC_ok {l : List (Nat → Int)} {t x y : Int} (h : shC l t x y = 0) : tkOk l = true ∧ shFine t x y = true ∧ tkOk (shL l t x y) = true := by
  unfold shC at h
  split at h
  · split at h
    · split at h
      · rename_i h1 h2 h3; exact ⟨h1, h2, h3⟩
      · cases h
    · cases h
  · cases h
theorem shL_KyW {l : List (Nat → Int)} {t x y : Int} (hv : tkOk l = true) (hf : shFine t x y = true) : ∀ a ∈ shL l t x y, KyW a := fun a ha => by
  unfold shL at ha
  obtain ⟨k, hk, rfl⟩ := List.mem_map.1 ha
  obtain ⟨j, hj, rfl⟩ := List.mem_iff_getElem.1 hk
  have q := okK_iff.1 (tkOk_at hv hj).1
  unfold shFine at hf
  simp only [Bool.and_eq_true, inB_iff] at hf
  constructor <;> simp only [keyF_0, keyF_1, keyF_2] <;> omega
theorem shL_len (l : List (Nat → Int)) (t x y : Int) : (shL l t x y).length = l.length := by simp [shL]
theorem validTrack2_ok {H : List Blk} {v : V} {l : List (Nat → Int)} (h : Rd H v encK l) (hK : ∀ a ∈ l, KyW a) (hl : l.length ≤ 1000000) (hv : tkOk l = true) :
    Cal Tryz.prog 60 [v] H fun u H' => u = .t [v, .v (.int .i64 0)] ∧ H' = H := by
  have hsol := h.solid
  refine cal_fn 7 mixed Tryz.func60 Tryz.ntmps60 Tryz.results60 rfl rfl rfl fun hw cx hx hq => ?_
  repeat (first | (simp only [go_sem, Int.reduceLT, Int.reduceLE, Int.reduceEq, Int.reduceToNat, hsol, hv]) | ((with_reducible refine And.intro ?_ ?_); omega) | ((with_reducible refine isSK ?_); first | (refine call_ret (validTrack h hK hl) (by simp only [go_sem, Int.reduceLT, Int.reduceLE, Int.reduceEq, Int.reduceToNat, hsol, hv]) ?_)) | ((with_reducible refine And.intro ?_ ?_); first | (with_reducible rfl) | assumption | (simp only [go_sem]; done)))
  refine ret_same hq _ (.inl rfl) ?_
  simp [go_sem, hsol]
theorem implShiftTrack_ok {H : List Blk} {v : V} {l : List (Nat → Int)} {t x y : Int} (h : Rd H v encK l) (hK : ∀ a ∈ l, KyW a) (hl : l.length ≤ 1000000) (hc : shC l t x y = 0) :
    Cal Tryz.prog 24 [v, .v (.int .i64 t), .v (.int .i64 x), .v (.int .i64 y)] H fun u H' => u = .t [.s H.length 0 (shL l t x y).length (.u 0), .v (.int .i64 0)] ∧ H' = H ++ [⟨(shL l t x y).flatMap encK, 42, .own 3⟩] := by
  have hsol := h.solid
  have f1 : (decide (-200 ≤ t) && decide (t ≤ 200)) = inB (-200) 200 t := rfl
  have f2 : (decide (-48 ≤ x) && decide (x ≤ 48)) = inB (-48) 48 x := rfl
  have f3 : (decide (-48 ≤ y) && decide (y ≤ 48)) = inB (-48) 48 y := rfl
  obtain ⟨e, hf, hv2⟩ := shC_ok hc
  have hf0 := hf
  unfold shFine at hf0
  simp only [Bool.and_eq_true] at hf0
  obtain ⟨b1, b2, b3⟩ := hf0
  have hlen := tkOk_len e
  have i1 := inB_iff.1 b1
  have i2 := inB_iff.1 b2
  have i3 := inB_iff.1 b3
  have hok : ∀ a ∈ l, okK a = true := fun a ha => by
    obtain ⟨j, hj, rfl⟩ := List.mem_iff_getElem.1 ha
    exact (tkOk_at e hj).1
  refine cal_fn 32 mixed Tryz.func24 Tryz.ntmps24 Tryz.results24 rfl rfl rfl fun hw cx hx hq => ?_
  repeat (first | (simp only [go_sem, Int.reduceLT, Int.reduceLE, Int.reduceEq, Int.reduceToNat, hsol, e, f1, f2, f3, b1, b2, b3]) | ((with_reducible refine And.intro ?_ ?_); omega) | ((with_reducible refine isSK ?_); first | (refine call_ret (validTrack h hK hl) (by simp only [go_sem, Int.reduceLT, Int.reduceLE, Int.reduceEq, Int.reduceToNat, hsol, e, f1, f2, f3, b1, b2, b3]) ?_) | (refine call_ret (inRange) (by simp only [go_sem, Int.reduceLT, Int.reduceLE, Int.reduceEq, Int.reduceToNat, hsol, e, f1, f2, f3, b1, b2, b3]) ?_) | (refine call_ret (shifted h hok (by omega) i1 i2 i3) (by simp only [go_sem, Int.reduceLT, Int.reduceLE, Int.reduceEq, Int.reduceToNat, hsol, e, f1, f2, f3, b1, b2, b3]) ?_) | (refine call_ret (validTrack2_ok (l := shL l t x y) (Rd.own0 rfl rfl (by simp [shL])) (shL_KyW e hf) (by rw [shL_len]; omega) hv2) (by simp only [go_sem, Int.reduceLT, Int.reduceLE, Int.reduceEq, Int.reduceToNat, hsol, e, f1, f2, f3, b1, b2, b3]) ?_)) | ((with_reducible refine And.intro ?_ ?_); first | (with_reducible rfl) | assumption | (simp only [go_sem]; done)))
  refine ret_at hq _ (.inl rfl) (by simp) ?_
  simp [go_sem, shL_len]
/-- The numbers of keys moved in time and place. -/
def shN (l : List (Nat → Int)) (t x y : Int) : List (Nat → Int) := l.map fun a => keyF (a 0 + t) (a 1 + x) (a 2 + y)
theorem shN_md (l : List (Nat → Int)) (t x y : Int) : (shN l t x y).map mdK = shL l t x y := by
  unfold shN shL; rw [List.map_map]; rfl
theorem specShiftTrack_ok {H : List Blk} {v : V} {l : List (Nat → Int)} {t x y : Int} (h : Rd H v encK l) (hK : ∀ a ∈ l, KyW a) (hl : l.length ≤ 1000000) (hc : shC l t x y = 0) :
    Cal Tryz.prog 25 [v, .v (.int .i64 t), .v (.int .i64 x), .v (.int .i64 y)] H fun u H' => u = .t [.s H.length 0 (shL l t x y).length (.u 0), .v (.int .i64 0)] ∧ H' = H ++ [⟨(shL l t x y).flatMap encK, 42, .own 3⟩] := by
  have hsol := h.solid
  have hL := h.lenV (P := Tryz.prog) slTy25
  have f0 : (0 : Int) - 48 = -48 := rfl
  have f1 : (decide (-200 ≤ t) && decide (t ≤ 200)) = inB (-200) 200 t := rfl
  have f2 : (decide (-48 ≤ x) && decide (x ≤ 48)) = inB (-48) 48 x := rfl
  have f3 : (decide (-48 ≤ y) && decide (y ≤ 48)) = inB (-48) 48 y := rfl
  obtain ⟨e, hf, hv2⟩ := shC_ok hc
  have hf0 := hf
  unfold shFine at hf0
  simp only [Bool.and_eq_true] at hf0
  obtain ⟨b1, b2, b3⟩ := hf0
  have i1 := inB_iff.1 b1
  have i2 := inB_iff.1 b2
  have i3 := inB_iff.1 b3
  have hp0 : paC l 0 true = 0 := by unfold paC; rw [e]; rfl
  have hmd := shN_md l t x y
  have hsl := shL_len l t x y
  have hsn : (shN l t x y).length = l.length := by simp [shN]
  have hlen := tkOk_len e
  have hok : ∀ a ∈ l, okK a = true := fun a ha => by
    obtain ⟨j, hj, rfl⟩ := List.mem_iff_getElem.1 ha
    exact (tkOk_at e hj).1
  refine cal_fn 67 mixed Tryz.func25 Tryz.ntmps25 Tryz.results25 rfl rfl rfl fun hw cx hx hq => ?_
  repeat (first | (simp only [go_sem, Int.reduceLT, Int.reduceLE, Int.reduceEq, Int.reduceToNat, hsol, f0, f1, f2, f3, b1, b2, b3, hp0]) | ((with_reducible refine And.intro ?_ ?_); omega) | ((with_reducible refine isSK ?_); first | (refine call_ret (l00In) (by simp only [go_sem, Int.reduceLT, Int.reduceLE, Int.reduceEq, Int.reduceToNat, hsol, f0, f1, f2, f3, b1, b2, b3, hp0]) ?_) | (refine call_ret (l03Asked h hK hl) (by simp only [go_sem, Int.reduceLT, Int.reduceLE, Int.reduceEq, Int.reduceToNat, hsol, f0, f1, f2, f3, b1, b2, b3, hp0]) ?_)) | ((with_reducible refine And.intro ?_ ?_); first | (with_reducible rfl) | assumption | (simp only [go_sem]; done)))
  refine WK_for (fun n : Nat => ⟨[v, .v (.int .i64 t), .v (.int .i64 x), .v (.int .i64 y), .any, .any, .any, .any, .any, .any, .any, .any, .any, .s H.length 0 n (.u 0), .v (.int .i64 n)] ++ junk 56, H ++ [⟨(shN (l.take n) t x y).flatMap (rowL .i64 3), 82, .own 3⟩]⟩) (fun n => n ≤ l.length) (fun n => l.length - n) 0 (Weak.slots ?_) ?_ fun n hn => ?_
  · simp [go_sem, shN]
  · simp
  rcases Int.lt_or_le (n : Int) l.length with hc1 | hc1
  · have hj : n < l.length := by omega
    obtain ⟨i, off, c, b, rfl, hat, hfit⟩ := h.full (by omega)
    have hlt := hat.lt
    have g2 : ∀ L : List Blk, (H ++ L)[i]? = some b := fun L => get_app hat.get
    have pa := hat.elem encK 3 encK_len hj
    have pf := hat.fits encK 3 encK_len hj (by omega)
    have pk := okK_iff.1 (hok _ (List.getElem_mem hj))
    have hn1 : norefH H.length H := norefH_wf hw (Nat.le_refl _)
    have hn2 : norefs H.length ((shN (l.take n) t x y).flatMap (rowL .i64 3)) = true := (flat_rowL .i64 3).norefs _ _
    have hl2 : ((shN (l.take n) t x y).flatMap (rowL .i64 3)).length = n * 3 := by rw [(flat_rowL .i64 3).flen, shN, List.length_map, List.length_take, Nat.min_eq_left (by omega)]
    have hd1 : (H.length + 1 = H.length) = False := eq_false (by omega)
    have hd2 : (i = H.length) = False := eq_false (by omega)
    have hd3 : (H.length + 2 = H.length) = False := eq_false (by omega)
    have q0 : cel (rowL .i64 3 l[n]) 0 = .v (.int .i64 (l[n] 0)) := rfl
    have q1 : cel (rowL .i64 3 l[n]) 1 = .v (.int .i64 (l[n] 1)) := rfl
    have q2 : cel (rowL .i64 3 l[n]) 2 = .v (.int .i64 (l[n] 2)) := rfl
    have wz : ∀ f : Nat → Int, wr [.v (.int .i64 0), .v (.int .i64 0), .v (.int .i64 0)] 0 (rowL .i64 3 f) = rowL .i64 3 f := fun f => rfl
    repeat (first | (simp only [go_sem, Int.reduceLT, Int.reduceLE, Int.reduceEq, Int.reduceToNat, hL, hc1, hat.get, g2, hat.live, hlt, pa, pf, q0, q1, q2, wz, encK_len, hn1, hn2, hl2, hd1, hd2, hd3, hx]) | ((with_reducible refine And.intro ?_ ?_); omega) | ((with_reducible refine isSK ?_); first | (refine call_ret (l03Numbers (okK_KyW (hok _ (List.getElem_mem hj)))) (by simp only [go_sem, Int.reduceLT, Int.reduceLE, Int.reduceEq, Int.reduceToNat, hL, hc1, hat.get, g2, hat.live, hlt, pa, pf, q0, q1, q2, wz, encK_len, hn1, hn2, hl2, hd1, hd2, hd3, hx]) ?_)) | ((with_reducible refine And.intro ?_ ?_); first | (with_reducible rfl) | assumption | (simp only [go_sem]; done)))
    refine EK_again (n + 1) ?_ (by omega) (by omega)
    have e1 : shN (l.take (n + 1)) t x y = shN (l.take n) t x y ++ [keyF (l[n] 0 + t) (l[n] 1 + x) (l[n] 2 + y)] := by unfold shN; rw [map_take' _ _ _ hj]
    have e2 : rowL .i64 3 (keyF (l[n] 0 + t) (l[n] 1 + x) (l[n] 2 + y)) = [.v (.int .i64 (l[n] 0 + t)), .v (.int .i64 (l[n] 1 + x)), .v (.int .i64 (l[n] 2 + y))] := rfl
    rw [e1, flat_snoc, e2]
    exact Weak.keepN rfl (by simp [go_sem] <;> omega) (by simp [hx]) (by simp [go_sem, (flat_rowL .i64 3).lts, hlt] <;> omega) (hw.app (by simp [go_sem, (flat_rowL .i64 3).lts, hlt] <;> omega))
  have hnl : n = l.length := by omega
  subst hnl
  rw [List.take_length]
  repeat (first | (simp only [go_sem, Int.reduceLT, Int.reduceLE, Int.reduceEq, Int.reduceToNat, hL, Int.not_lt.2 hc1]) | ((with_reducible refine And.intro ?_ ?_); omega) | ((with_reducible refine isSK ?_); first | (refine call_ret (l03Made_ok (L := shN l t x y) (Rd.own0 rfl rfl hsn.symm) (by rw [hmd]; exact hv2)) (by simp only [go_sem, Int.reduceLT, Int.reduceLE, Int.reduceEq, Int.reduceToNat, hL, Int.not_lt.2 hc1]) ?_)) | ((with_reducible refine And.intro ?_ ?_); first | (with_reducible rfl) | assumption | (simp only [go_sem]; done)))
  refine ret_one hq hw _ (.inl rfl) 1 rfl (of_eq_true (flat_encK.lts _ _)) (.t [.s H.length 0 (shL l t x y).length (.u 0), .v (.int .i64 0)]) (by simp [go_sem]) ?_
  simp [go_sem, conc, concs, upσ, Cap.val, hmd, hsl, hsn]
end Go.Proofs.YtcebmjajnbafoaaGreatDoor
