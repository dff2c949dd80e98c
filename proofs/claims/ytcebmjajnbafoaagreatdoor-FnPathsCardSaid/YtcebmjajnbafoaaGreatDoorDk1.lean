/- Contracts of functions of the translated program, by the walk. -/
import Derived.Test.YtcebmjajnbafoaaGreatDoorK14
import Derived.Test.YtcebmjajnbafoaaGreatDoorK10
import Derived.Test.YtcebmjajnbafoaaGreatDoorLD
set_option linter.unusedVariables false
set_option linter.unusedSimpArgs false
set_option maxRecDepth 8000
set_option maxHeartbeats 16000000
namespace Go.Proofs.YtcebmjajnbafoaaGreatDoor
open Go Go.Sx
theorem okV_encK (a : Nat → Int) : okV [.i .i16, .i .i8, .i .i8] (encK a) = true := rfl
theorem eqL_encK (a : Nat → Int) : eqL (encK a) (encK a) = true := by
  unfold encK; simp [eqL]
theorem sameTrackS {H : List Blk} {v v2 : V} {l : List (Nat → Int)} (h : Rd H v encK l) (h2 : Rd H v2 encK l) (hl : l.length ≤ 1000000000) : Cal Tryz.prog 16 [v, v2] H fun u H' => u = .v (.bool true) ∧ H' = H := by
  have hsol := h.solid
  have hsol2 := h2.solid
  have hL := h.lenV (P := Tryz.prog) slTy25
  have hL2 := h2.lenV (P := Tryz.prog) slTy25
  refine cal_fn 24 mixed Tryz.func16 Tryz.ntmps16 Tryz.results16 rfl rfl rfl fun hw cx hx hq => ?_
  repeat (first | (simp only [go_sem, Int.reduceLT, Int.reduceLE, Int.reduceEq, Int.reduceToNat, hsol, hsol2, hL, hL2]) | ((with_reducible refine And.intro ?_ ?_); omega) | ((with_reducible refine isWKr (id := 6) ?_); refine WK_drawAt 6 [[],[],[0,1],[0,1,2],[],[],[4,5],[4,5,6],[0,1,2,3,4,5,6,7]] (by kernel_rfl) ?_) | ((with_reducible refine And.intro ?_ ?_); first | (with_reducible rfl) | assumption | (simp only [go_sem]; done)))
  refine WK_for (fun n : Nat => ⟨[v, v2, .any, .any, .any, .v (.int .i64 n)] ++ junk 20, H⟩) (fun n => n ≤ l.length) (fun n => l.length - n) 0 (Weak.slots ?_) ?_ fun n hn => ?_
  · simp [go_sem]
  · simp
  rcases Int.lt_or_le (n : Int) l.length with hc | hc
  · have hj : n < l.length := by omega
    obtain ⟨i, off, c, bl, rfl, hat⟩ := h.row (by omega)
    obtain ⟨i2, off2, c2, bl2, rfl, hat2⟩ := h2.row (by omega)
    have hfit := hat.fits encK 3 encK_len hj (by omega)
    have hfit2 := hat2.fits encK 3 encK_len hj (by omega)
    have e1 := hat.elem encK 3 encK_len hj
    have e2 := hat2.elem encK 3 encK_len hj
    repeat (first | (simp only [go_sem, Int.reduceLT, Int.reduceLE, Int.reduceEq, Int.reduceToNat, hL, hL2, hc, hat.lt, hat.get, hat.live, e1, hat2.lt, hat2.get, hat2.live, e2, okV_encK, eqL_encK]) | ((with_reducible refine And.intro ?_ ?_); omega) | ((with_reducible refine isWKr (id := 6) ?_); refine WK_drawAt 6 [[],[],[0,1],[0,1,2],[],[],[4,5],[4,5,6],[0,1,2,3,4,5,6,7]] (by kernel_rfl) ?_) | ((with_reducible refine And.intro ?_ ?_); first | (with_reducible rfl) | assumption | (simp only [go_sem]; done)))
    refine EK_again (n + 1) (Weak.slots (by simp [go_sem])) (by omega) (by omega)
  · repeat (first | (simp only [go_sem, Int.reduceLT, Int.reduceLE, Int.reduceEq, Int.reduceToNat, hL, Int.not_lt.2 hc]) | ((with_reducible refine And.intro ?_ ?_); omega) | ((with_reducible refine isWKr (id := 6) ?_); refine WK_drawAt 6 [[],[],[0,1],[0,1,2],[],[],[4,5],[4,5,6],[0,1,2,3,4,5,6,7]] (by kernel_rfl) ?_) | ((with_reducible refine And.intro ?_ ?_); first | (with_reducible rfl) | assumption | (simp only [go_sem]; done)))
    refine ret_same hq _ (.inl rfl) ?_
    simp [go_sem]
theorem equalTrack {H : List Blk} {v v2 : V} {l : List (Nat → Int)} (h : Rd H v encK l) (h2 : Rd H v2 encK l) (hl : l.length ≤ 1000000000) : Cal Tryz.prog 50 [v, v2] H fun u H' => u = .v (.bool true) ∧ H' = H := by
  have hsol := h.solid
  have hsol2 := h2.solid
  have hL := h.lenV (P := Tryz.prog) slTy25
  have hL2 := h2.lenV (P := Tryz.prog) slTy25
  refine cal_fn 24 mixed Tryz.func50 Tryz.ntmps50 Tryz.results50 rfl rfl rfl fun hw cx hx hq => ?_
  repeat (first | (simp only [go_sem, Int.reduceLT, Int.reduceLE, Int.reduceEq, Int.reduceToNat, hsol, hsol2, hL, hL2]) | ((with_reducible refine And.intro ?_ ?_); omega) | ((with_reducible refine isWKr (id := 6) ?_); refine WK_drawAt 6 [[],[],[0,1],[0,1,2],[],[],[4,5],[4,5,6],[0,1,2,3,4,5,6,7]] (by kernel_rfl) ?_) | ((with_reducible refine And.intro ?_ ?_); first | (with_reducible rfl) | assumption | (simp only [go_sem]; done)))
  refine WK_for (fun n : Nat => ⟨[v, v2, .any, .any, .v (.bool false), .any, .any, .any, .any, .any, .any, .any, .v (.int .i64 l.length), .v (.int .i64 n)] ++ junk 12, H⟩) (fun n => n ≤ l.length) (fun n => l.length - n) 0 (Weak.slots ?_) ?_ fun n hn => ?_
  · simp [go_sem]
  · simp
  rcases Int.lt_or_le (n : Int) l.length with hc | hc
  · have hj : n < l.length := by omega
    obtain ⟨i, off, c, bl, rfl, hat⟩ := h.row (by omega)
    obtain ⟨i2, off2, c2, bl2, rfl, hat2⟩ := h2.row (by omega)
    have hfit := hat.fits encK 3 encK_len hj (by omega)
    have hfit2 := hat2.fits encK 3 encK_len hj (by omega)
    have e1 := hat.elem encK 3 encK_len hj
    have e2 := hat2.elem encK 3 encK_len hj
    repeat (first | (simp only [go_sem, Int.reduceLT, Int.reduceLE, Int.reduceEq, Int.reduceToNat, hL, hL2, hc, hat.lt, hat.get, hat.live, e1, hat2.lt, hat2.get, hat2.live, e2, okV_encK, eqL_encK]) | ((with_reducible refine And.intro ?_ ?_); omega) | ((with_reducible refine isWKr (id := 6) ?_); refine WK_drawAt 6 [[],[],[0,1],[0,1,2],[],[],[4,5],[4,5,6],[0,1,2,3,4,5,6,7]] (by kernel_rfl) ?_) | ((with_reducible refine And.intro ?_ ?_); first | (with_reducible rfl) | assumption | (simp only [go_sem]; done)))
    refine EK_again (n + 1) (Weak.slots (by simp [go_sem])) (by omega) (by omega)
  · repeat (first | (simp only [go_sem, Int.reduceLT, Int.reduceLE, Int.reduceEq, Int.reduceToNat, hL, Int.not_lt.2 hc]) | ((with_reducible refine And.intro ?_ ?_); omega) | ((with_reducible refine isWKr (id := 6) ?_); refine WK_drawAt 6 [[],[],[0,1],[0,1,2],[],[],[4,5],[4,5,6],[0,1,2,3,4,5,6,7]] (by kernel_rfl) ?_) | ((with_reducible refine And.intro ?_ ?_); first | (with_reducible rfl) | assumption | (simp only [go_sem]; done)))
    refine ret_same hq _ (.inl rfl) ?_
    simp [go_sem]
theorem sameTrackI {H : List Blk} {v v2 : V} {l : List (Nat → Int)} (h : Rd H v encK l) (h2 : Rd H v2 encK l) (hl : l.length ≤ 1000000000) : Cal Tryz.prog 17 [v, v2] H fun u H' => u = .v (.bool true) ∧ H' = H := by
  have hsol := h.solid
  have hsol2 := h2.solid
  refine cal_fn 6 mixed Tryz.func17 Tryz.ntmps17 Tryz.results17 rfl rfl rfl fun hw cx hx hq => ?_
  repeat (first | (simp only [go_sem, Int.reduceLT, Int.reduceLE, Int.reduceEq, Int.reduceToNat, hsol, hsol2]) | ((with_reducible refine And.intro ?_ ?_); omega) | ((with_reducible refine isSK ?_); first | (refine call_ret (equalTrack h h2 hl) (by simp only [go_sem, Int.reduceLT, Int.reduceLE, Int.reduceEq, Int.reduceToNat, hsol, hsol2]) ?_)) | ((with_reducible refine And.intro ?_ ?_); first | (with_reducible rfl) | assumption | (simp only [go_sem]; done)))
  refine ret_same hq _ (.inl rfl) ?_
  simp [go_sem]
theorem ticksOf {H : List Blk} {v : V} {l : List (Nat → Int)} (h : Rd H v encK l) (hK : ∀ a ∈ l, KyW a) (hv : tkOk l = true) : Cal Tryz.prog 13 [v] H fun u H' => u = p3 (kAt l 0 0) (kAt l (l.length - 1) 0) 0 ∧ H' = H := by
  have hsol := h.solid
  have hlen := tkOk_len hv
  refine cal_fn 16 mixed Tryz.func13 Tryz.ntmps13 Tryz.results13 rfl rfl rfl fun hw cx hx hq => ?_
  repeat (first | (simp only [go_sem, Int.reduceLT, Int.reduceLE, Int.reduceEq, Int.reduceToNat, hsol, hv]) | ((with_reducible refine And.intro ?_ ?_); omega) | ((with_reducible refine isSK ?_); first | (refine call_ret (validTrack h hK (by omega)) (by simp only [go_sem, Int.reduceLT, Int.reduceLE, Int.reduceEq, Int.reduceToNat, hsol, hv]) ?_) | (refine call_ret (trackEnds h hK hv) (by simp only [go_sem, Int.reduceLT, Int.reduceLE, Int.reduceEq, Int.reduceToNat, hsol, hv]) ?_)) | ((with_reducible refine And.intro ?_ ?_); first | (with_reducible rfl) | assumption | (simp only [go_sem]; done)))
  refine ret_same hq _ (.inl rfl) ?_
  simp [go_sem, p3]
theorem l00Same {H : List Blk} {v v2 : V} {l : List (Int)} (h : Rd H v i64C l) (h2 : Rd H v2 i64C l) (hl : l.length ≤ 1000000000) : Cal Tryz.prog 54 [v, v2] H fun u H' => u = .v (.bool true) ∧ H' = H := by
  have hsol := h.solid
  have hsol2 := h2.solid
  have hL := h.lenV (P := Tryz.prog) slTy34
  have hL2 := h2.lenV (P := Tryz.prog) slTy34
  refine cal_fn 24 mixed Tryz.func54 Tryz.ntmps54 Tryz.results54 rfl rfl rfl fun hw cx hx hq => ?_
  repeat (first | (simp only [go_sem, Int.reduceLT, Int.reduceLE, Int.reduceEq, Int.reduceToNat, hsol, hsol2, hL, hL2]) | ((with_reducible refine And.intro ?_ ?_); omega) | ((with_reducible refine isWKr (id := 6) ?_); refine WK_drawAt 6 [[],[],[0,1],[0,1,2],[],[],[4,5],[4,5,6],[0,1,2,3,4,5,6,7]] (by kernel_rfl) ?_) | ((with_reducible refine And.intro ?_ ?_); first | (with_reducible rfl) | assumption | (simp only [go_sem]; done)))
  refine WK_for (fun n : Nat => ⟨[v, v2, .any, .any, .any, .v (.int .i64 n)] ++ junk 20, H⟩) (fun n => n ≤ l.length) (fun n => l.length - n) 0 (Weak.slots ?_) ?_ fun n hn => ?_
  · simp [go_sem]
  · simp
  rcases Int.lt_or_le (n : Int) l.length with hc | hc
  · have hj : n < l.length := by omega
    obtain ⟨i, off, c, bl, rfl, hat⟩ := h.row (by omega)
    obtain ⟨i2, off2, c2, bl2, rfl, hat2⟩ := h2.row (by omega)
    have hfit := hat.fits i64C 1 (fun _ => rfl) hj (by omega)
    have hfit2 := hat2.fits i64C 1 (fun _ => rfl) hj (by omega)
    have e1 := hat.i64 hj
    have e2 := hat2.i64 hj
    repeat (first | (simp only [go_sem, Int.reduceLT, Int.reduceLE, Int.reduceEq, Int.reduceToNat, hL, hL2, hc, hat.lt, hat.get, hat.live, e1, hat2.lt, hat2.get, hat2.live, e2]) | ((with_reducible refine And.intro ?_ ?_); omega) | ((with_reducible refine isWKr (id := 6) ?_); refine WK_drawAt 6 [[],[],[0,1],[0,1,2],[],[],[4,5],[4,5,6],[0,1,2,3,4,5,6,7]] (by kernel_rfl) ?_) | ((with_reducible refine And.intro ?_ ?_); first | (with_reducible rfl) | assumption | (simp only [go_sem]; done)))
    refine EK_again (n + 1) (Weak.slots (by simp [go_sem])) (by omega) (by omega)
  · repeat (first | (simp only [go_sem, Int.reduceLT, Int.reduceLE, Int.reduceEq, Int.reduceToNat, hL, Int.not_lt.2 hc]) | ((with_reducible refine And.intro ?_ ?_); omega) | ((with_reducible refine isWKr (id := 6) ?_); refine WK_drawAt 6 [[],[],[0,1],[0,1,2],[],[],[4,5],[4,5,6],[0,1,2,3,4,5,6,7]] (by kernel_rfl) ?_) | ((with_reducible refine And.intro ?_ ?_); first | (with_reducible rfl) | assumption | (simp only [go_sem]; done)))
    refine ret_same hq _ (.inl rfl) ?_
    simp [go_sem]
theorem sameNumbers {H : List Blk} {v v2 : V} {l : List (Int)} (h : Rd H v i64C l) (h2 : Rd H v2 i64C l) (hl : l.length ≤ 1000000000) : Cal Tryz.prog 19 [v, v2] H fun u H' => u = .v (.bool true) ∧ H' = H := by
  have hsol := h.solid
  have hsol2 := h2.solid
  refine cal_fn 6 mixed Tryz.func19 Tryz.ntmps19 Tryz.results19 rfl rfl rfl fun hw cx hx hq => ?_
  repeat (first | (simp only [go_sem, Int.reduceLT, Int.reduceLE, Int.reduceEq, Int.reduceToNat, hsol, hsol2]) | ((with_reducible refine And.intro ?_ ?_); omega) | ((with_reducible refine isSK ?_); first | (refine call_ret (l00Same h h2 hl) (by simp only [go_sem, Int.reduceLT, Int.reduceLE, Int.reduceEq, Int.reduceToNat, hsol, hsol2]) ?_)) | ((with_reducible refine And.intro ?_ ?_); first | (with_reducible rfl) | assumption | (simp only [go_sem]; done)))
  refine ret_same hq _ (.inl rfl) ?_
  simp [go_sem]
/-- A track, walked back. -/
def bkF (l : List (Nat → Int)) (a : Nat → Int) : Nat → Int := keyF (kAt l 0 0 + kAt l (l.length - 1) 0 - a 0) (a 1) (a 2)
def bkN (l : List (Nat → Int)) : Nat → List (Nat → Int)
  | 0 => []
  | n + 1 => bkN l n ++ [bkF l (kAt l (l.length - 1 - n))]
theorem bkN_len (l : List (Nat → Int)) : ∀ n, (bkN l n).length = n
  | 0 => rfl
  | n + 1 => by unfold bkN; rw [List.length_append, bkN_len l n]; rfl
theorem tkOk_mem {l : List (Nat → Int)} (hv : tkOk l = true) : ∀ a ∈ l, KyW a := fun a ha => by
  obtain ⟨j, hj, rfl⟩ := List.mem_iff_getElem.1 ha
  exact okK_KyW (tkOk_at hv hj).1
theorem specBackTrack_ok {H : List Blk} {v : V} {l : List (Nat → Int)} (h : Rd H v encK l) (hv : tkOk l = true) :
    Cal Tryz.prog 10 [v] H fun u H' => u = .t [.s H.length 0 l.length (.u 0), .v (.int .i64 0)] ∧ H' = H ++ [⟨(bkN l l.length).flatMap encK, 42, .own 3⟩] := by
  have hsol := h.solid
  have hL := h.lenV (P := Tryz.prog) slTy25
  have hlen := tkOk_len hv
  have hK := tkOk_mem hv
  refine cal_fn 43 mixed Tryz.func10 Tryz.ntmps10 Tryz.results10 rfl rfl rfl fun hw cx hx hq => ?_
  repeat (first | (simp only [go_sem, Int.reduceLT, Int.reduceLE, Int.reduceEq, Int.reduceToNat, hsol, hv, hL]) | ((with_reducible refine And.intro ?_ ?_); omega) | ((with_reducible refine isSK ?_); first | (refine call_ret (l03Ok h hK (by omega)) (by simp only [go_sem, Int.reduceLT, Int.reduceLE, Int.reduceEq, Int.reduceToNat, hsol, hv, hL]) ?_)) | ((with_reducible refine isMC ?_); first | (refine mcall_ret (l03Ok h hK (by omega)) (by simp only [go_sem, Int.reduceLT, Int.reduceLE, Int.reduceEq, Int.reduceToNat, hsol, hv, hL]) (by simp only [go_sem, Int.reduceLT, Int.reduceLE, Int.reduceEq, Int.reduceToNat, hsol, hv, hL]) ?_)) | ((with_reducible refine isWKr (id := 8) ?_); refine WK_drawAt 8 [[],[0],[0,1],[0,1,2],[],[],[5],[5,6],[4,5,6,7],[4,5,6,7,8],[4,5,6,7,8,9],[0,1,2,3,4,5,6,7,8,9,10],[],[12],[0,1,2,3,4,5,6,7,8,9,10,11,12,13],[0,1,2,3,4,5,6,7,8,9,10,11,12,13,14],[0,1,2,3,4,5,6,7,8,9,10,11,12,13,14,15]] (by kernel_rfl) ?_) | ((with_reducible refine And.intro ?_ ?_); first | (with_reducible rfl) | assumption | (simp only [go_sem]; done)))
  refine WK_for (fun n : Nat => ⟨[v, .any, .any, .any, .s H.length 0 n (.u 0), .v (.int .i64 ((l.length : Int) - 1 - n))] ++ junk 38, H ++ [⟨(bkN l n).flatMap encK, 42, .own 3⟩]⟩) (fun n => n ≤ l.length) (fun n => l.length - n) 0 (Weak.slots ?_) ?_ fun n hn => ?_
  · simp [go_sem, bkN]
  · simp
  rcases Int.lt_or_le (n : Int) l.length with hc | hc
  · obtain ⟨i, off, c, b, rfl, hat, hfit⟩ := h.full (by omega)
    obtain ⟨m, hm1⟩ : ∃ m : Nat, (l.length : Int) - 1 = m := ⟨l.length - 1, by omega⟩
    obtain ⟨q, hq1⟩ : ∃ q : Nat, (m : Int) - n = q := ⟨m - n, by omega⟩
    have hqn : l.length - 1 - n = q := by omega
    have hmn : l.length - 1 = m := by omega
    have hj : q < l.length := by omega
    have hjm : m < l.length := by omega
    have hj0 : 0 < l.length := by omega
    have c1 : (0 ≤ (l.length : Int) - 1 - n) = True := eq_true (by omega)
    have c1q : (0 ≤ (q : Int)) = True := eq_true (by omega)
    have hlt := hat.lt
    have g2 : ∀ L : List Blk, (H ++ L)[i]? = some b := fun L => get_app hat.get
    have pf : off + 3 ≤ b.cells.length := by simpa using hat.fits encK 3 encK_len hj0 (by omega)
    have pe : At H i off (rowK kK 3 l[0]) b := by
      have := hat.el encK_len hj0
      rw [Nat.zero_mul, Nat.add_zero] at this; exact this
    have p0 : cel b.cells off = .v (.int .i16 (l[0] 0)) := pe.celK (j := 0) (by omega)
    have me : At H i (off + m * 3) (rowK kK 3 (l[m]'hjm)) b := hat.el encK_len hjm
    have mf := hat.fits encK 3 encK_len hjm (by omega)
    have m0 : cel b.cells (off + m * 3) = .v (.int .i16 ((l[m]'hjm) 0)) := me.celK (j := 0) (by omega)
    have qf := hat.fits encK 3 encK_len hj (by omega)
    have qa := hat.elem encK 3 encK_len hj
    unfold encK at qa
    have k0 := okK_iff.1 (tkOk_at hv hj0).1
    have km := okK_iff.1 (tkOk_at hv hjm).1
    have kq := okK_iff.1 (tkOk_at hv hj).1
    have hF : bkF l (kAt l q) = keyF (l[0] 0 + (l[m]'hjm) 0 - (l[q]'hj) 0) ((l[q]'hj) 1) ((l[q]'hj) 2) := by
      unfold bkF
      rw [kAt_at hj, kAt_at hj0, hmn, kAt_at hjm]
    have hn1 : norefH H.length H := norefH_wf hw (Nat.le_refl _)
    have hn2 : norefs H.length ((bkN l n).flatMap encK) = true := flat_encK.norefs _ _
    have hl2 : ((bkN l n).flatMap encK).length = n * 3 := by rw [flat_encK.flen, bkN_len]
    have hd1 : (H.length + 1 = H.length) = False := eq_false (by omega)
    have hd2 : (i = H.length) = False := eq_false (by omega)
    have hd3 : (i = H.length + 1) = False := eq_false (by omega)
    have w1 := wrap_i16 (x := l[0] 0 + (l[m]'hjm) 0) (by omega) (by omega)
    have w2 := wrap_i16 (x := l[0] 0 + (l[m]'hjm) 0 - (l[q]'hj) 0) (by omega) (by omega)
    repeat (first | (simp only [go_sem, Int.reduceLT, Int.reduceLE, Int.reduceEq, Int.reduceToNat, hL, w1, w2, c1, c1q, hq1, hm1, hat.get, g2, hat.live, hlt, pf, p0, mf, m0, qf, qa, hn1, hn2, hl2, hd1, hd2, hd3, hx, Nat.zero_mul, Nat.add_zero]) | ((with_reducible refine And.intro ?_ ?_); omega) | ((with_reducible refine isWKr (id := 8) ?_); refine WK_drawAt 8 [[],[0],[0,1],[0,1,2],[],[],[5],[5,6],[4,5,6,7],[4,5,6,7,8],[4,5,6,7,8,9],[0,1,2,3,4,5,6,7,8,9,10],[],[12],[0,1,2,3,4,5,6,7,8,9,10,11,12,13],[0,1,2,3,4,5,6,7,8,9,10,11,12,13,14],[0,1,2,3,4,5,6,7,8,9,10,11,12,13,14,15]] (by kernel_rfl) ?_) | ((with_reducible refine And.intro ?_ ?_); first | (with_reducible rfl) | assumption | (simp only [go_sem]; done)))
    refine EK_again (n + 1) ?_ (by omega) (by omega)
    have hE : encK (keyF (l[0] 0 + (l[m]'hjm) 0 - (l[q]'hj) 0) ((l[q]'hj) 1) ((l[q]'hj) 2)) = [.v (.int .i16 (l[0] 0 + (l[m]'hjm) 0 - (l[q]'hj) 0)), .v (.int .i8 ((l[q]'hj) 1)), .v (.int .i8 ((l[q]'hj) 2))] := rfl
    rw [bkN, flat_snoc, hqn, hF, hE]
    exact Weak.keepN rfl (by simp [go_sem] <;> omega) (by simp [hx]) (by simp [go_sem, flat_encK.lts, hlt] <;> omega) (hw.app (by simp [go_sem, flat_encK.lts, hlt] <;> omega))
  · have : n = l.length := by omega
    subst this
    have c1 : (0 ≤ (l.length : Int) - 1 - l.length) = False := eq_false (by omega)
    repeat (first | (simp only [go_sem, Int.reduceLT, Int.reduceLE, Int.reduceEq, Int.reduceToNat, hL, c1]) | ((with_reducible refine And.intro ?_ ?_); omega) | ((with_reducible refine isWKr (id := 8) ?_); refine WK_drawAt 8 [[],[0],[0,1],[0,1,2],[],[],[5],[5,6],[4,5,6,7],[4,5,6,7,8],[4,5,6,7,8,9],[0,1,2,3,4,5,6,7,8,9,10],[],[12],[0,1,2,3,4,5,6,7,8,9,10,11,12,13],[0,1,2,3,4,5,6,7,8,9,10,11,12,13,14],[0,1,2,3,4,5,6,7,8,9,10,11,12,13,14,15]] (by kernel_rfl) ?_) | ((with_reducible refine And.intro ?_ ?_); first | (with_reducible rfl) | assumption | (simp only [go_sem]; done)))
    refine ret_at hq _ (.inl rfl) (by simp) ?_
    simp [go_sem]
end Go.Proofs.YtcebmjajnbafoaaGreatDoor
namespace Go.Proofs.YtcebmjajnbafoaaGreatDoor
open Go Go.Sx
open Go.RowKit
/-- What the source tells next. -/
def nxB (l : List Int) (a : Nat) : Int := if a < l.length then l[a]?.getD 0 else 0
def nxS (l : List Int) (a : Nat) (sd : Int) : Int := IntKind.u64.wrap (IntKind.u64.wrap (IntKind.u64.wrap (sd * 6364136223846793005) + IntKind.u64.wrap (nxB l a)) + 1442695040888963407)
def nxV (l : List Int) (a : Nat) (sd : Int) : Int := if a < l.length then nxB l a else bits .and .u64 ((nxS l a sd).fdiv (2 ^ min 40 64)) 255
theorem u64_range (x : Int) : 0 ≤ IntKind.u64.wrap x ∧ IntKind.u64.wrap x ≤ 18446744073709551615 := by
  unfold IntKind.wrap
  simp only [IntKind.bits, IntKind.signed, Bool.false_and]
  simp
  omega
theorem nxS_range (l : List Int) (a : Nat) (sd : Int) : 0 ≤ nxS l a sd ∧ nxS l a sd ≤ 18446744073709551615 := u64_range _
theorem and255 (x : Int) : 0 ≤ bits .and .u64 x 255 ∧ bits .and .u64 x 255 ≤ 255 := by
  have e : bits .and .u64 x 255 = IntKind.u64.wrap ((BitVec.ofInt 64 x &&& BitVec.ofInt 64 255).toNat : Int) := rfl
  have h : (BitVec.ofInt 64 x &&& BitVec.ofInt 64 255).toNat ≤ 255 := by
    rw [BitVec.toNat_and]
    have : (BitVec.ofInt 64 (255 : Int)).toNat = 255 := by decide
    rw [this]; exact Nat.and_le_right
  rw [e, wrap_u64 (by omega) (by omega)]; omega
theorem nxV_range {l : List Int} (h8 : B8 l) (a : Nat) (sd : Int) : 0 ≤ nxV l a sd ∧ nxV l a sd ≤ 255 := by
  unfold nxV
  split
  · rename_i h
    unfold nxB
    rw [if_pos h, List.getElem?_eq_getElem h]
    exact h8 _ (List.getElem_mem h)
  · exact and255 _
theorem next {H : List Blk} {i a : Nat} {cv : V} {sd : Int} {l : List Int} {k : BK} (h : H[i]? = some ⟨[cv, .v (.int .i64 a), .v (.int .u64 sd)], 89, k⟩) (hk : k.mut = true) (hv : k.live = true) (hr : Rd H cv u8C l) (h8 : B8 l) (hll : l.length ≤ 4096) (ha : a ≤ 1000000) (hs : 0 ≤ sd ∧ sd ≤ 18446744073709551615) :
    Cal Tryz.prog 70 [.p i 0] H fun u H' => u = .v (.int .i64 (nxV l a sd)) ∧ H' = H.set i ⟨[cv, .v (.int .i64 ((a + 1 : Nat) : Int)), .v (.int .u64 (nxS l a sd))], 89, k⟩ := by
  have hsol := hr.solid
  have hL := hr.lenV (P := Tryz.prog) slTy22
  have hlt := (List.getElem?_eq_some_iff.1 h).1
  refine cal_fn 61 mixed Tryz.func70 Tryz.ntmps70 Tryz.results70 rfl rfl rfl fun hw cx hx hq => ?_
  have hget : ∀ b : Blk, (H.set i b)[i]? = some b := fun b => by rw [List.getElem?_set_self hlt]
  by_cases hc : a < l.length
  · obtain ⟨j, off, c, b, rfl, hat, hf⟩ := hr.full (by omega)
    have hfl : (l.flatMap u8C).length = l.length := by rw [flat_u8.flen, Nat.mul_one]
    rw [hfl] at hf
    have an := hat.u8 hc
    have hb8 := h8 _ (List.getElem_mem hc)
    have hnb : nxB l a = l[a] := by unfold nxB; rw [if_pos hc, List.getElem?_eq_getElem hc]; rfl
    have hc1 : ((a : Int) < (l.length : Int)) = True := eq_true (by omega)
    have hc2 : ((a : Int) + 1 ≤ (l.length : Int)) = True := eq_true (by omega)
    repeat (first | (simp only [go_sem, Int.reduceLT, Int.reduceLE, Int.reduceEq, Int.reduceToNat, h, hk, hv, hsol, hL, hlt, hget, List.set_set, hc1, hc2, hat.get, hat.live, an]) | ((with_reducible refine And.intro ?_ ?_); omega) | ((with_reducible refine isWKr (id := 2) ?_); refine WK_drawAt 2 [[],[0],[0,1],[0,1,2],[],[4],[4,5],[4,5,6],[4,5,6,7],[0,1,2,3,4,5,6,7,8]] (by kernel_rfl) ?_) | ((with_reducible refine isWKr (id := 3) ?_); refine WK_drawAt 3 [[],[0],[0,1],[0,1,2],[],[4],[4,5],[4,5,6],[0,1,2,3,4,5,6,7],[0,1,2,3,4,5,6,7,8],[0,1,2,3,4,5,6,7,8,9],[0,1,2,3,4,5,6,7,8,9,10]] (by kernel_rfl) ?_) | ((with_reducible refine isWKr (id := 6) ?_); refine WK_drawAt 6 [[],[0],[0,1],[0,1,2],[],[4],[4,5],[4,5,6],[4,5,6,7],[0,1,2,3,4,5,6,7,8]] (by kernel_rfl) ?_) | ((with_reducible refine And.intro ?_ ?_); first | (with_reducible rfl) | assumption | (simp only [go_sem]; done)))
    refine ret_at hq _ (.inl rfl) (by simp) ?_
    simp [go_sem, nxV, nxS, hnb, hc]
  · have hnb : nxB l a = 0 := by unfold nxB; rw [if_neg hc]
    have hc1 : ((a : Int) < (l.length : Int)) = False := eq_false (by omega)
    have hc2 : ((a : Int) + 1 ≤ (l.length : Int)) = False := eq_false (by omega)
    repeat (first | (simp only [go_sem, Int.reduceLT, Int.reduceLE, Int.reduceEq, Int.reduceToNat, h, hk, hv, hsol, hL, hlt, hget, List.set_set, hc1, hc2]) | ((with_reducible refine And.intro ?_ ?_); omega) | ((with_reducible refine isWKr (id := 2) ?_); refine WK_drawAt 2 [[],[0],[0,1],[0,1,2],[],[4],[4,5],[4,5,6],[4,5,6,7],[0,1,2,3,4,5,6,7,8]] (by kernel_rfl) ?_) | ((with_reducible refine isWKr (id := 3) ?_); refine WK_drawAt 3 [[],[0],[0,1],[0,1,2],[],[4],[4,5],[4,5,6],[0,1,2,3,4,5,6,7],[0,1,2,3,4,5,6,7,8],[0,1,2,3,4,5,6,7,8,9],[0,1,2,3,4,5,6,7,8,9,10]] (by kernel_rfl) ?_) | ((with_reducible refine isWKr (id := 6) ?_); refine WK_drawAt 6 [[],[0],[0,1],[0,1,2],[],[4],[4,5],[4,5,6],[4,5,6,7],[0,1,2,3,4,5,6,7,8]] (by kernel_rfl) ?_) | ((with_reducible refine And.intro ?_ ?_); first | (with_reducible rfl) | assumption | (simp only [go_sem]; done)))
    have h255 := and255 ((IntKind.u64.wrap (IntKind.u64.wrap (IntKind.u64.wrap (sd * 6364136223846793005) + IntKind.u64.wrap 0) + 1442695040888963407)).fdiv (2 ^ min 40 64))
    refine ⟨by omega, ?_⟩
    refine ret_at hq _ (.inl rfl) (by simp) ?_
    simp [go_sem, nxV, nxS, hnb, hc]
/-- What the source picks, below n. -/
def pkV (l : List Int) (a : Nat) (sd n : Int) : Int := (nxV l a sd).tmod n
theorem pkV_range {l : List Int} (h8 : B8 l) (a : Nat) (sd : Int) {n : Int} (hn : 1 ≤ n) : 0 ≤ pkV l a sd n ∧ pkV l a sd n < n := by
  have := nxV_range h8 a sd
  unfold pkV
  exact ⟨Int.tmod_nonneg _ this.1, Int.tmod_lt_of_pos _ (by omega)⟩
theorem pick {H : List Blk} {i a : Nat} {cv : V} {sd n : Int} {l : List Int} {k : BK} (h : H[i]? = some ⟨[cv, .v (.int .i64 a), .v (.int .u64 sd)], 89, k⟩) (hk : k.mut = true) (hv : k.live = true) (hr : Rd H cv u8C l) (h8 : B8 l) (hll : l.length ≤ 4096) (ha : a ≤ 1000000) (hs : 0 ≤ sd ∧ sd ≤ 18446744073709551615) (hn : 2 ≤ n ∧ n ≤ 200) :
    Cal Tryz.prog 32 [.p i 0, .v (.int .i64 n)] H fun u H' => u = .v (.int .i64 (pkV l a sd n)) ∧ H' = H.set i ⟨[cv, .v (.int .i64 ((a + 1 : Nat) : Int)), .v (.int .u64 (nxS l a sd))], 89, k⟩ := by
  have hsol := hr.solid
  have hlt := (List.getElem?_eq_some_iff.1 h).1
  have hr1 := nxV_range h8 a sd
  have c1 : (n ≤ 1) = False := eq_false (by omega)
  have c2 : ((200 : Int) < n) = False := eq_false (by omega)
  have c3 : (n = 0) = False := eq_false (by omega)
  refine cal_fn 18 mixed Tryz.func32 Tryz.ntmps32 Tryz.results32 rfl rfl rfl fun hw cx hx hq => ?_
  repeat (first | (simp only [go_sem, Int.reduceLT, Int.reduceLE, Int.reduceEq, Int.reduceToNat, hsol, hlt, c1, c2, c3]) | ((with_reducible refine And.intro ?_ ?_); omega) | ((with_reducible refine isSK ?_); first | (refine call_ret (next h hk hv hr h8 hll ha hs) (by simp only [go_sem, Int.reduceLT, Int.reduceLE, Int.reduceEq, Int.reduceToNat, hsol, hlt, c1, c2, c3]) ?_)) | ((with_reducible refine And.intro ?_ ?_); first | (with_reducible rfl) | assumption | (simp only [go_sem]; done)))
  refine ret_at hq _ (.inl rfl) (by simp) ?_
  simp [go_sem, pkV]
theorem one {H : List Blk} {i a : Nat} {cv : V} {sd n : Int} {l : List Int} {k : BK} (h : H[i]? = some ⟨[cv, .v (.int .i64 a), .v (.int .u64 sd)], 89, k⟩) (hk : k.mut = true) (hv : k.live = true) (hr : Rd H cv u8C l) (h8 : B8 l) (hll : l.length ≤ 4096) (ha : a ≤ 1000000) (hs : 0 ≤ sd ∧ sd ≤ 18446744073709551615) (hn : 2 ≤ n ∧ n ≤ 200) :
    Cal Tryz.prog 69 [.p i 0, .v (.int .i64 n)] H fun u H' => u = .v (.bool (decide (pkV l a sd n = 0))) ∧ H' = H.set i ⟨[cv, .v (.int .i64 ((a + 1 : Nat) : Int)), .v (.int .u64 (nxS l a sd))], 89, k⟩ := by
  have hlt := (List.getElem?_eq_some_iff.1 h).1
  refine cal_fn 7 mixed Tryz.func69 Tryz.ntmps69 Tryz.results69 rfl rfl rfl fun hw cx hx hq => ?_
  repeat (first | (simp only [go_sem, Int.reduceLT, Int.reduceLE, Int.reduceEq, Int.reduceToNat, hlt]) | ((with_reducible refine And.intro ?_ ?_); omega) | ((with_reducible refine isSK ?_); first | (refine call_ret (pick h hk hv hr h8 hll ha hs hn) (by simp only [go_sem, Int.reduceLT, Int.reduceLE, Int.reduceEq, Int.reduceToNat, hlt]) ?_)) | ((with_reducible refine And.intro ?_ ?_); first | (with_reducible rfl) | assumption | (simp only [go_sem]; done)))
  refine ret_at hq _ (.inl rfl) (by simp) ?_
  simp [go_sem]
theorem l00From {H : List Blk} {cv : V} {l : List Int} (hr : Rd H cv u8C l) : Cal Tryz.prog 31 [cv] H fun u H' => u = .p H.length 0 ∧ H' = H ++ [⟨[cv, .v (.int .i64 0), .v (.int .u64 0)], 89, .fix⟩] := by
  have hsol := hr.solid
  rcases hr with ⟨rfl, _⟩ | ⟨i, off, c, b, rfl, hat, hf⟩
  · refine cal_fn 5 mixed Tryz.func31 Tryz.ntmps31 Tryz.results31 rfl rfl rfl fun hw cx hx hq => ?_
    repeat (first | (simp only [go_sem, Int.reduceLT, Int.reduceLE, Int.reduceEq, Int.reduceToNat, hsol]) | ((with_reducible refine And.intro ?_ ?_); omega) | ((with_reducible refine And.intro ?_ ?_); first | (with_reducible rfl) | assumption | (simp only [go_sem]; done)))
    refine ret_at hq _ (.inl rfl) (by simp) ?_
    simp [go_sem]
  · refine cal_fn 5 mixed Tryz.func31 Tryz.ntmps31 Tryz.results31 rfl rfl rfl fun hw cx hx hq => ?_
    repeat (first | (simp only [go_sem, Int.reduceLT, Int.reduceLE, Int.reduceEq, Int.reduceToNat, hsol]) | ((with_reducible refine And.intro ?_ ?_); omega) | ((with_reducible refine And.intro ?_ ?_); first | (with_reducible rfl) | assumption | (simp only [go_sem]; done)))
    refine ret_at hq _ (.inl rfl) (by simp) ?_
    simp [go_sem]
theorem P6Pick {H : List Blk} {cv : V} {l : List Int} {n : Int} (hr : Rd H cv u8C l) (h8 : B8 l) (hll : l.length ≤ 4096) (hn : 2 ≤ n ∧ n ≤ 200) : Cal Tryz.prog 6 [cv, .v (.int .i64 n)] H fun u H' => u = .v (.int .i64 (pkV l 0 0 n)) ∧ H' = H := by
  have hsol := hr.solid
  refine cal_fn 7 mixed Tryz.func6 Tryz.ntmps6 Tryz.results6 rfl rfl rfl fun hw cx hx hq => ?_
  repeat (first | (simp only [go_sem, Int.reduceLT, Int.reduceLE, Int.reduceEq, Int.reduceToNat, hsol]) | ((with_reducible refine And.intro ?_ ?_); omega) | ((with_reducible refine isSK ?_); first | (refine call_ret (l00From hr) (by simp only [go_sem, Int.reduceLT, Int.reduceLE, Int.reduceEq, Int.reduceToNat, hsol]) ?_) | (refine call_ret (pick (a := 0) (sd := 0) (l := l) (k := .fix) (by first | exact (Go.Sx.get_at0 _ _).trans rfl | exact (Go.Sx.get_at _ _ 1).trans rfl | exact (Go.Sx.get_at _ _ 2).trans rfl | exact (Go.Sx.get_at _ _ 3).trans rfl | exact (Go.Sx.get_at _ _ 4).trans rfl | exact (Go.Sx.get_at _ _ 5).trans rfl | exact (Go.Sx.get_at _ _ 6).trans rfl | exact (Go.Sx.get_at _ _ 7).trans rfl | exact (Go.Sx.get_at _ _ 8).trans rfl | exact (Go.Sx.get_at _ _ 9).trans rfl | exact (Go.Sx.get_at _ _ 10).trans rfl | exact (Go.Sx.get_at _ _ 11).trans rfl | exact (Go.Sx.get_at _ _ 12).trans rfl | exact (Go.Sx.get_at _ _ 13).trans rfl | exact (Go.Sx.get_at _ _ 14).trans rfl | exact (Go.Sx.get_at _ _ 15).trans rfl) rfl rfl hr.app h8 hll (by omega) (by omega) hn) (by simp only [go_sem, Int.reduceLT, Int.reduceLE, Int.reduceEq, Int.reduceToNat, hsol]) ?_)) | ((with_reducible refine And.intro ?_ ?_); first | (with_reducible rfl) | assumption | (simp only [go_sem]; done)))
  refine ret_cut hq hw _ (.inl rfl) ?_
  simp [go_sem]
theorem f6big {H : List Blk} {cv : V} {l : List Int} (hr : Rd H cv u8C l) : Cal Tryz.prog 4 [cv] H fun u H' => u = .v (.bool (decide (4096 < (l.length : Int)))) ∧ H' = H := by
  have hsol := hr.solid
  have hL := hr.lenV (P := Tryz.prog) slTy22
  refine cal_fn 5 mixed Tryz.func4 Tryz.ntmps4 Tryz.results4 rfl rfl rfl fun hw cx hx hq => ?_
  repeat (first | (simp only [go_sem, Int.reduceLT, Int.reduceLE, Int.reduceEq, Int.reduceToNat, hsol, hL]) | ((with_reducible refine And.intro ?_ ?_); omega) | ((with_reducible refine And.intro ?_ ?_); first | (with_reducible rfl) | assumption | (simp only [go_sem]; done)))
  refine ret_same hq _ (.inl rfl) ?_
  simp [go_sem]
end Go.Proofs.YtcebmjajnbafoaaGreatDoor
