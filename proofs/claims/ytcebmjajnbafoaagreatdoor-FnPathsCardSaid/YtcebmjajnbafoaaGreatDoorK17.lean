/- Contracts of functions of the translated program, by the walk. -/
import Derived.Test.YtcebmjajnbafoaaGreatDoorK14
set_option linter.unusedVariables false
set_option linter.unusedSimpArgs false
set_option maxRecDepth 8000
set_option maxHeartbeats 16000000
namespace Go.Proofs.YtcebmjajnbafoaaGreatDoor
open Go Go.Sx
/-- The key in the middle ahead of key i, where there is one. -/
def midK (l : List (Nat → Int)) (lift : Int) (i : Nat) : Nat → Int := keyF ((kAt l (i - 1) 0 + kAt l i 0).tdiv 2) (betweenR (kAt l (i - 1) 1) (kAt l i 1) 500) (betweenR (kAt l (i - 1) 2) (kAt l i 2) 500 - lift)
def arS (l : List (Nat → Int)) (lift : Int) (i : Nat) : List (Nat → Int) := if i = 0 then [] else if 2 ≤ kAt l i 0 - kAt l (i - 1) 0 then [midK l lift i] else []
def arN (l : List (Nat → Int)) (lift : Int) : Nat → List (Nat → Int)
  | 0 => []
  | i + 1 => arN l lift i ++ arS l lift i ++ [kAt l i]
theorem arN_len (l : List (Nat → Int)) (lift : Int) : ∀ n, (arN l lift n).length ≤ 2 * n
  | 0 => Nat.le_refl _
  | n + 1 => by
    have := arN_len l lift n
    unfold arN arS
    split
    · simp; omega
    · split <;> simp <;> omega
theorem midK_KyW {l : List (Nat → Int)} {lift : Int} (hv : tkOk l = true) (hl : inB (-24) 24 lift = true) {i : Nat} (hi : i < l.length) (h0 : i ≠ 0) : KyW (midK l lift i) := by
  have q1 := okK_iff.1 (tkOk_at hv hi).1
  have q2 := okK_iff.1 (tkOk_at hv (show i - 1 < l.length by omega)).1
  rw [← kAt_at hi] at q1
  rw [← kAt_at (show i - 1 < l.length by omega)] at q2
  have il := inB_iff.1 hl
  have r1 := betweenR_range (a := kAt l (i - 1) 1) (b := kAt l i 1) (s := 500) (by omega) (by omega) q2.2.1 q1.2.1
  have r2 := betweenR_range (a := kAt l (i - 1) 2) (b := kAt l i 2) (s := 500) (by omega) (by omega) q2.2.2 q1.2.2
  have r3 : 0 ≤ (kAt l (i - 1) 0 + kAt l i 0).tdiv 2 ∧ (kAt l (i - 1) 0 + kAt l i 0).tdiv 2 ≤ 200 := by
    rw [Int.tdiv_eq_ediv_of_nonneg (by omega)]; omega
  constructor <;> simp only [midK, keyF_0, keyF_1, keyF_2] <;> omega
theorem arN_KyW {l : List (Nat → Int)} {lift : Int} (hv : tkOk l = true) (hl : inB (-24) 24 lift = true) : ∀ n, n ≤ l.length → ∀ a ∈ arN l lift n, KyW a
  | 0, _, a, ha => by cases ha
  | n + 1, hn, a, ha => by
    unfold arN at ha
    rcases List.mem_append.1 ha with ha | ha
    · rcases List.mem_append.1 ha with ha | ha
      · exact arN_KyW hv hl n (by omega) a ha
      · unfold arS at ha
        split at ha
        · cases ha
        · rename_i h0
          split at ha
          · rw [List.mem_singleton.1 ha]; exact midK_KyW hv hl (by omega) h0
          · cases ha
    · rw [List.mem_singleton.1 ha, kAt_at (show n < l.length by omega)]
      exact okK_KyW (tkOk_at hv (by omega)).1
theorem mdK_KyW {a : Nat → Int} (h : KyW a) : KyW (mdK a) := ⟨h.t, h.x, h.y⟩
/-- What ArcTrack makes. -/
def arL (l : List (Nat → Int)) (lift : Int) : List (Nat → Int) := (arN l lift l.length).map mdK
theorem arL_enc (l : List (Nat → Int)) (lift : Int) : (arN l lift l.length).flatMap encK = (arL l lift).flatMap encK := by
  unfold arL; rw [List.flatMap_map]; rfl
theorem arL_len (l : List (Nat → Int)) (lift : Int) : (arL l lift).length = (arN l lift l.length).length := by simp [arL]
def arC (l : List (Nat → Int)) (lift : Int) : Int := if tkOk l = true then (if inB (-24) 24 lift = true then (if tkOk (arL l lift) = true then 0 else 3) else 2) else 1
theorem arC_ok {l : List (Nat → Int)} {lift : Int} (h : arC l lift = 0) : tkOk l = true ∧ inB (-24) 24 lift = true ∧ tkOk (arL l lift) = true := by
  unfold arC at h
  split at h
  · split at h
    · split at h
      · rename_i h1 h2 h3; exact ⟨h1, h2, h3⟩
      · cases h
    · cases h
  · cases h
theorem arL_KyW {l : List (Nat → Int)} {lift : Int} (hv : tkOk l = true) (hl : inB (-24) 24 lift = true) : ∀ a ∈ arL l lift, KyW a := fun a ha => by
  unfold arL at ha
  obtain ⟨k, hk, rfl⟩ := List.mem_map.1 ha
  exact mdK_KyW (arN_KyW hv hl _ (Nat.le_refl _) k hk)
theorem implArcTrack_ok {H : List Blk} {v : V} {l : List (Nat → Int)} {lift : Int} (h : Rd H v encK l) (hK : ∀ a ∈ l, KyW a) (hl : l.length ≤ 1000000) (hc : arC l lift = 0) :
    Cal Tryz.prog 28 [v, .v (.int .i64 lift)] H fun u H' => u = .t [.s H.length 0 (arL l lift).length (.u 0), .v (.int .i64 0)] ∧ H' = H ++ [⟨(arL l lift).flatMap encK, 42, .own 3⟩] := by
  have hsol := h.solid
  have hL := h.lenV (P := Tryz.prog) slTy25
  obtain ⟨e, b1, hv2⟩ := arC_ok hc
  refine cal_fn 81 mixed Tryz.func28 Tryz.ntmps28 Tryz.results28 rfl rfl rfl fun hw cx hx hq => ?_
  have hlen := tkOk_len e
  have hj0 : 0 < l.length := by omega
  obtain ⟨i, off, c, b, rfl, hat, hfit⟩ := h.full (by omega)
  have hlt := hat.lt
  have g2 : ∀ L : List Blk, (H ++ L)[i]? = some b := fun L => get_app hat.get
  have pf0 : off + 3 ≤ b.cells.length := by simpa using hat.fits encK 3 encK_len hj0 (by omega)
  have pa0 : seg b.cells off 3 = encK l[0] := by simpa using hat.elem encK 3 encK_len hj0
  have s3 : ∀ f : Nat → Int, seg (encK f) 0 3 = encK f := fun f => rfl
  repeat (first | (simp only [go_sem, Int.reduceLT, Int.reduceLE, Int.reduceEq, Int.reduceToNat, hsol, e, b1, hL, hat.get, g2, hat.live, hlt, celK0, celK1, celK2, encK_len, pf0, pa0, s3]) | ((with_reducible refine And.intro ?_ ?_); omega) | ((with_reducible refine isSK ?_); first | (refine call_ret (validTrack h hK hl) (by simp only [go_sem, Int.reduceLT, Int.reduceLE, Int.reduceEq, Int.reduceToNat, hsol, e, b1, hL, hat.get, g2, hat.live, hlt, celK0, celK1, celK2, encK_len, pf0, pa0, s3]) ?_) | (refine call_ret (isReach) (by simp only [go_sem, Int.reduceLT, Int.reduceLE, Int.reduceEq, Int.reduceToNat, hsol, e, b1, hL, hat.get, g2, hat.live, hlt, celK0, celK1, celK2, encK_len, pf0, pa0, s3]) ?_)) | ((with_reducible refine isMC ?_); first | (refine mcall_ret (validTrack h hK hl) (by simp only [go_sem, Int.reduceLT, Int.reduceLE, Int.reduceEq, Int.reduceToNat, hsol, e, b1, hL, hat.get, g2, hat.live, hlt, celK0, celK1, celK2, encK_len, pf0, pa0, s3]) (by simp only [go_sem, Int.reduceLT, Int.reduceLE, Int.reduceEq, Int.reduceToNat, hsol, e, b1, hL, hat.get, g2, hat.live, hlt, celK0, celK1, celK2, encK_len, pf0, pa0, s3]) ?_) | (refine mcall_ret (isReach) (by simp only [go_sem, Int.reduceLT, Int.reduceLE, Int.reduceEq, Int.reduceToNat, hsol, e, b1, hL, hat.get, g2, hat.live, hlt, celK0, celK1, celK2, encK_len, pf0, pa0, s3]) (by simp only [go_sem, Int.reduceLT, Int.reduceLE, Int.reduceEq, Int.reduceToNat, hsol, e, b1, hL, hat.get, g2, hat.live, hlt, celK0, celK1, celK2, encK_len, pf0, pa0, s3]) ?_)) | ((with_reducible refine isWKr (id := 9) ?_); refine WK_drawAt 9 [[],[],[1],[0,1,2],[0,1,2,3],[],[],[5,6],[5,6,7],[],[],[0,1,2,3,4,9,10],[0,1,2,3,4,5,6,7,8,9,10,11]] (by kernel_rfl) ?_) | ((with_reducible refine isWKr (id := 11) ?_); refine WK_drawUp 11 [[],[0],[0,1],[],[3],[3,4],[0,1,2,3,4,5],[],[7],[7,8],[],[10],[10,11],[0,1,2,3,4,5,6,7,8,9,10,11,12],[0,1,2,3,4,5,6,7,8,9,10,11,12,13],[0,1,2,3,4,5,6,7,8,9,10,11,12,13,14]] 13 (by kernel_rfl) ?_; dsimp only [List.take, List.drop]) | ((with_reducible refine And.intro ?_ ?_); first | (with_reducible rfl) | assumption | (simp only [go_sem]; done)))
  have ha1 : arN l lift 1 = [l[0]] := by unfold arN arN arS; rw [kAt_at hj0]; rfl
  refine WK_for (fun n : Nat => ⟨[.s i off l.length c, .v (.int .i64 lift), .any, .any, .any, .any, .s H.length 0 (arN l lift n).length (.u 0), .v (.int .i64 n)] ++ junk 75, H ++ [⟨(arN l lift n).flatMap encK, 42, .own 3⟩]⟩) (fun n => 1 ≤ n ∧ n ≤ l.length) (fun n => l.length - n) 1 ?_ ?_ fun n hn => ?_
  · rw [ha1]
    exact Weak.slots (by simp [go_sem])
  · omega
  rcases Int.lt_or_le (n : Int) l.length with hc1 | hc1
  · obtain ⟨m, rfl⟩ : ∃ m, n = m + 1 := ⟨n - 1, by omega⟩
    have hj : m + 1 < l.length := by omega
    have hj1 : m < l.length := by omega
    have pe : At H i (off + m * 3) (rowK kK 3 (l[m]'hj1)) b := hat.el encK_len hj1
    have pf := hat.fits encK 3 encK_len hj1 (by omega)
    have pa := hat.elem encK 3 encK_len hj1
    have p0 : cel b.cells (off + m * 3) = .v (.int .i16 ((l[m]'hj1) 0)) := pe.celK (j := 0) (by omega)
    have p1 : cel b.cells (off + m * 3 + 1) = .v (.int .i8 ((l[m]'hj1) 1)) := pe.celK (j := 1) (by omega)
    have p2 : cel b.cells (off + m * 3 + 2) = .v (.int .i8 ((l[m]'hj1) 2)) := pe.celK (j := 2) (by omega)
    simp only [Nat.add_assoc] at p1 p2
    have pk := okK_iff.1 (tkOk_at e hj1).1
    have qe : At H i (off + (m + 1) * 3) (rowK kK 3 (l[m + 1]'hj)) b := hat.el encK_len hj
    have qf := hat.fits encK 3 encK_len hj (by omega)
    have qa := hat.elem encK 3 encK_len hj
    have q0 : cel b.cells (off + (m + 1) * 3) = .v (.int .i16 ((l[m + 1]'hj) 0)) := qe.celK (j := 0) (by omega)
    have q1 : cel b.cells (off + (m + 1) * 3 + 1) = .v (.int .i8 ((l[m + 1]'hj) 1)) := qe.celK (j := 1) (by omega)
    have q2 : cel b.cells (off + (m + 1) * 3 + 2) = .v (.int .i8 ((l[m + 1]'hj) 2)) := qe.celK (j := 2) (by omega)
    simp only [Nat.add_assoc] at q1 q2
    have qk := okK_iff.1 (tkOk_at e hj).1
    have il := inB_iff.1 b1
    have r1 := betweenR_range (a := l[m] 1) (b := l[m + 1] 1) (s := 500) (by omega) (by omega) pk.2.1 qk.2.1
    have r2 := betweenR_range (a := l[m] 2) (b := l[m + 1] 2) (s := 500) (by omega) (by omega) pk.2.2 qk.2.2
    have r3 : 0 ≤ (l[m] 0 + l[m + 1] 0).tdiv 2 ∧ (l[m] 0 + l[m + 1] 0).tdiv 2 ≤ 200 := by
      rw [Int.tdiv_eq_ediv_of_nonneg (by omega)]; omega
    have e3 : midK l lift (m + 1) = keyF ((l[m] 0 + l[m + 1] 0).tdiv 2) (betweenR (l[m] 1) (l[m + 1] 1) 500) (betweenR (l[m] 2) (l[m + 1] 2) 500 - lift) := by
      unfold midK; rw [show m + 1 - 1 = m from rfl, kAt_at hj1, kAt_at hj]
    have hd : (kAt l (m + 1) 0 - kAt l (m + 1 - 1) 0) = l[m + 1] 0 - l[m] 0 := by rw [show m + 1 - 1 = m from rfl, kAt_at hj1, kAt_at hj]
    have hal := arN_len l lift (m + 1)
    have hn1 : norefH H.length H := norefH_wf hw (Nat.le_refl _)
    have hd1 : (H.length + 1 = H.length) = False := eq_false (by omega)
    have hd2 : (i = H.length) = False := eq_false (by omega)
    have hd3 : (H.length + 2 = H.length) = False := eq_false (by omega)
    have hd4 : (H.length + 3 = H.length) = False := eq_false (by omega)
    have hd5 : (H.length + 4 = H.length) = False := eq_false (by omega)
    have t1 : (((m + 1 : Nat) : Int) - 1).toNat = m := by omega
    have w16 : IntKind.i16.wrap (l[m + 1] 0 - l[m] 0) = l[m + 1] 0 - l[m] 0 := wrap_i16 (by omega) (by omega)
    have s3 : ∀ f : Nat → Int, seg (encK f) 0 3 = encK f := fun f => rfl
    have hn2 : norefs H.length ((arN l lift (m + 1)).flatMap encK) = true := flat_encK.norefs _ _
    have hl2 : ((arN l lift (m + 1)).flatMap encK).length = (arN l lift (m + 1)).length * 3 := flat_encK.flen _
    by_cases hge : 2 ≤ l[m + 1] 0 - l[m] 0
    · have b2 : (2 ≤ l[m + 1] 0 - l[m] 0) = True := eq_true hge
      have hs : arN l lift (m + 1 + 1) = arN l lift (m + 1) ++ [midK l lift (m + 1)] ++ [l[m + 1]] := by
        rw [arN, arS, if_neg (by omega), if_pos (by rw [hd]; exact hge), kAt_at hj]
      repeat (first | (simp only [go_sem, Int.reduceLT, Int.reduceLE, Int.reduceEq, Int.reduceToNat, hL, hat.get, g2, hat.live, hlt, celK0, celK1, celK2, encK_len, hc1, pf, pa, p0, p1, p2, qf, qa, q0, q1, q2, t1, w16, b2, s3, hn1, hn2, hl2, hd1, hd2, hd3, hd4, hd5, hx]) | ((with_reducible refine And.intro ?_ ?_); omega) | ((with_reducible refine isSK ?_); first | (refine call_ret (between (by omega) (by omega) (by omega) (by omega)) (by simp only [go_sem, Int.reduceLT, Int.reduceLE, Int.reduceEq, Int.reduceToNat, hL, hat.get, g2, hat.live, hlt, celK0, celK1, celK2, encK_len, hc1, pf, pa, p0, p1, p2, qf, qa, q0, q1, q2, t1, w16, b2, s3, hn1, hn2, hl2, hd1, hd2, hd3, hd4, hd5, hx]) ?_) | (refine call_ret (keyAt (by omega) (by omega) (by omega)) (by simp only [go_sem, Int.reduceLT, Int.reduceLE, Int.reduceEq, Int.reduceToNat, hL, hat.get, g2, hat.live, hlt, celK0, celK1, celK2, encK_len, hc1, pf, pa, p0, p1, p2, qf, qa, q0, q1, q2, t1, w16, b2, s3, hn1, hn2, hl2, hd1, hd2, hd3, hd4, hd5, hx]) ?_)) | ((with_reducible refine isMC ?_); first | (refine mcall_ret (between (by omega) (by omega) (by omega) (by omega)) (by simp only [go_sem, Int.reduceLT, Int.reduceLE, Int.reduceEq, Int.reduceToNat, hL, hat.get, g2, hat.live, hlt, celK0, celK1, celK2, encK_len, hc1, pf, pa, p0, p1, p2, qf, qa, q0, q1, q2, t1, w16, b2, s3, hn1, hn2, hl2, hd1, hd2, hd3, hd4, hd5, hx]) (by simp only [go_sem, Int.reduceLT, Int.reduceLE, Int.reduceEq, Int.reduceToNat, hL, hat.get, g2, hat.live, hlt, celK0, celK1, celK2, encK_len, hc1, pf, pa, p0, p1, p2, qf, qa, q0, q1, q2, t1, w16, b2, s3, hn1, hn2, hl2, hd1, hd2, hd3, hd4, hd5, hx]) ?_) | (refine mcall_ret (keyAt (by omega) (by omega) (by omega)) (by simp only [go_sem, Int.reduceLT, Int.reduceLE, Int.reduceEq, Int.reduceToNat, hL, hat.get, g2, hat.live, hlt, celK0, celK1, celK2, encK_len, hc1, pf, pa, p0, p1, p2, qf, qa, q0, q1, q2, t1, w16, b2, s3, hn1, hn2, hl2, hd1, hd2, hd3, hd4, hd5, hx]) (by simp only [go_sem, Int.reduceLT, Int.reduceLE, Int.reduceEq, Int.reduceToNat, hL, hat.get, g2, hat.live, hlt, celK0, celK1, celK2, encK_len, hc1, pf, pa, p0, p1, p2, qf, qa, q0, q1, q2, t1, w16, b2, s3, hn1, hn2, hl2, hd1, hd2, hd3, hd4, hd5, hx]) ?_)) | ((with_reducible refine isWKr (id := 9) ?_); refine WK_drawAt 9 [[],[],[1],[0,1,2],[0,1,2,3],[],[],[5,6],[5,6,7],[],[],[0,1,2,3,4,9,10],[0,1,2,3,4,5,6,7,8,9,10,11]] (by kernel_rfl) ?_) | ((with_reducible refine isWKr (id := 11) ?_); refine WK_drawUp 11 [[],[0],[0,1],[],[3],[3,4],[0,1,2,3,4,5],[],[7],[7,8],[],[10],[10,11],[0,1,2,3,4,5,6,7,8,9,10,11,12],[0,1,2,3,4,5,6,7,8,9,10,11,12,13],[0,1,2,3,4,5,6,7,8,9,10,11,12,13,14]] 13 (by kernel_rfl) ?_; dsimp only [List.take, List.drop]) | ((with_reducible refine And.intro ?_ ?_); first | (with_reducible rfl) | assumption | (simp only [go_sem]; done)))
      refine EK_again (m + 1 + 1) ?_ (by omega) (by omega)
      rw [hs, flat_snoc, flat_snoc, e3, List.append_assoc ((arN l lift (m + 1)).flatMap encK)]
      exact Weak.keepN rfl (by simp [go_sem] <;> omega) (by simp [hx]) (by simp [go_sem, flat_encK.lts, hlt] <;> omega) (hw.app (by simp [go_sem, flat_encK.lts, hlt] <;> omega))
    · have b2 : (2 ≤ l[m + 1] 0 - l[m] 0) = False := eq_false hge
      have hs : arN l lift (m + 1 + 1) = arN l lift (m + 1) ++ [l[m + 1]] := by
        rw [arN, arS, if_neg (by omega), if_neg (by rw [hd]; exact hge), kAt_at hj, List.append_nil]
      repeat (first | (simp only [go_sem, Int.reduceLT, Int.reduceLE, Int.reduceEq, Int.reduceToNat, hL, hat.get, g2, hat.live, hlt, celK0, celK1, celK2, encK_len, hc1, pf, pa, p0, p1, p2, qf, qa, q0, q1, q2, t1, w16, b2, s3, hn1, hn2, hl2, hd1, hd2, hd3, hd4, hd5, hx]) | ((with_reducible refine And.intro ?_ ?_); omega) | ((with_reducible refine isWKr (id := 9) ?_); refine WK_drawAt 9 [[],[],[1],[0,1,2],[0,1,2,3],[],[],[5,6],[5,6,7],[],[],[0,1,2,3,4,9,10],[0,1,2,3,4,5,6,7,8,9,10,11]] (by kernel_rfl) ?_) | ((with_reducible refine isWKr (id := 11) ?_); refine WK_drawUp 11 [[],[0],[0,1],[],[3],[3,4],[0,1,2,3,4,5],[],[7],[7,8],[],[10],[10,11],[0,1,2,3,4,5,6,7,8,9,10,11,12],[0,1,2,3,4,5,6,7,8,9,10,11,12,13],[0,1,2,3,4,5,6,7,8,9,10,11,12,13,14]] 13 (by kernel_rfl) ?_; dsimp only [List.take, List.drop]) | ((with_reducible refine And.intro ?_ ?_); first | (with_reducible rfl) | assumption | (simp only [go_sem]; done)))
      refine EK_again (m + 1 + 1) ?_ (by omega) (by omega)
      rw [hs, flat_snoc]
      exact Weak.keepN rfl (by simp [go_sem] <;> omega) (by simp [hx]) (by simp [go_sem, flat_encK.lts, hlt] <;> omega) (hw.app (by simp [go_sem, flat_encK.lts, hlt] <;> omega))
  have hnl : n = l.length := by omega
  subst hnl
  rw [arL_enc]
  have hal := arL_len l lift
  have hal2 := arN_len l lift l.length
  repeat (first | (simp only [go_sem, Int.reduceLT, Int.reduceLE, Int.reduceEq, Int.reduceToNat, hL, Int.not_lt.2 hc1]) | ((with_reducible refine And.intro ?_ ?_); omega) | ((with_reducible refine isSK ?_); first | (refine call_ret (validTrack2_ok (l := arL l lift) (Rd.own0 rfl rfl hal.symm) (arL_KyW e b1) (by omega) hv2) (by simp only [go_sem, Int.reduceLT, Int.reduceLE, Int.reduceEq, Int.reduceToNat, hL, Int.not_lt.2 hc1]) ?_)) | ((with_reducible refine isMC ?_); first | (refine mcall_ret (validTrack2_ok (l := arL l lift) (Rd.own0 rfl rfl hal.symm) (arL_KyW e b1) (by omega) hv2) (by simp only [go_sem, Int.reduceLT, Int.reduceLE, Int.reduceEq, Int.reduceToNat, hL, Int.not_lt.2 hc1]) (by simp only [go_sem, Int.reduceLT, Int.reduceLE, Int.reduceEq, Int.reduceToNat, hL, Int.not_lt.2 hc1]) ?_)) | ((with_reducible refine isWKr (id := 9) ?_); refine WK_drawAt 9 [[],[],[1],[0,1,2],[0,1,2,3],[],[],[5,6],[5,6,7],[],[],[0,1,2,3,4,9,10],[0,1,2,3,4,5,6,7,8,9,10,11]] (by kernel_rfl) ?_) | ((with_reducible refine isWKr (id := 11) ?_); refine WK_drawUp 11 [[],[0],[0,1],[],[3],[3,4],[0,1,2,3,4,5],[],[7],[7,8],[],[10],[10,11],[0,1,2,3,4,5,6,7,8,9,10,11,12],[0,1,2,3,4,5,6,7,8,9,10,11,12,13],[0,1,2,3,4,5,6,7,8,9,10,11,12,13,14]] 13 (by kernel_rfl) ?_; dsimp only [List.take, List.drop]) | ((with_reducible refine And.intro ?_ ?_); first | (with_reducible rfl) | assumption | (simp only [go_sem]; done)))
  refine ret_at hq _ (.inl rfl) (by simp) ?_
  simp [go_sem, hal]
theorem specArcTrack_ok {H : List Blk} {v : V} {l : List (Nat → Int)} {lift : Int} (h : Rd H v encK l) (hK : ∀ a ∈ l, KyW a) (hl : l.length ≤ 1000000) (hc : arC l lift = 0) :
    Cal Tryz.prog 29 [v, .v (.int .i64 lift)] H fun u H' => u = .t [.s H.length 0 (arL l lift).length (.u 0), .v (.int .i64 0)] ∧ H' = H ++ [⟨(arL l lift).flatMap encK, 42, .own 3⟩] := by
  have hsol := h.solid
  have hL := h.lenV (P := Tryz.prog) slTy25
  obtain ⟨e, b1, hv2⟩ := arC_ok hc
  refine cal_fn 75 mixed Tryz.func29 Tryz.ntmps29 Tryz.results29 rfl rfl rfl fun hw cx hx hq => ?_
  have hlen := tkOk_len e
  have hp0 : paC l 0 true = 0 := by unfold paC; rw [e]; rfl
  repeat (first | (simp only [go_sem, Int.reduceLT, Int.reduceLE, Int.reduceEq, Int.reduceToNat, hsol, b1, hp0]) | ((with_reducible refine And.intro ?_ ?_); omega) | ((with_reducible refine isSK ?_); first | (refine call_ret (l03Reach) (by simp only [go_sem, Int.reduceLT, Int.reduceLE, Int.reduceEq, Int.reduceToNat, hsol, b1, hp0]) ?_) | (refine call_ret (l03Asked h hK hl) (by simp only [go_sem, Int.reduceLT, Int.reduceLE, Int.reduceEq, Int.reduceToNat, hsol, b1, hp0]) ?_)) | ((with_reducible refine isMC ?_); first | (refine mcall_ret (l03Reach) (by simp only [go_sem, Int.reduceLT, Int.reduceLE, Int.reduceEq, Int.reduceToNat, hsol, b1, hp0]) (by simp only [go_sem, Int.reduceLT, Int.reduceLE, Int.reduceEq, Int.reduceToNat, hsol, b1, hp0]) ?_) | (refine mcall_ret (l03Asked h hK hl) (by simp only [go_sem, Int.reduceLT, Int.reduceLE, Int.reduceEq, Int.reduceToNat, hsol, b1, hp0]) (by simp only [go_sem, Int.reduceLT, Int.reduceLE, Int.reduceEq, Int.reduceToNat, hsol, b1, hp0]) ?_)) | ((with_reducible refine isWKr (id := 13) ?_); refine WK_drawUp 13 [[],[],[1],[],[3],[1,2,3,4],[1,2,3,4,5],[],[],[8],[],[10],[8,9,10,11],[],[8,9,10,11,12,13],[1,2,3,4,5,6,7,8,9,10,11,12,13,14],[1,2,3,4,5,6,7,8,9,10,11,12,13,14,15],[0,1,2,3,4,5,6,7,8,9,10,11,12,13,14,15,16],[0,1,2,3,4,5,6,7,8,9,10,11,12,13,14,15,16,17]] 17 (by kernel_rfl) ?_; dsimp only [List.take, List.drop]) | ((with_reducible refine And.intro ?_ ?_); first | (with_reducible rfl) | assumption | (simp only [go_sem]; done)))
  refine WK_for (fun n : Nat => ⟨[v, .v (.int .i64 lift), .any, .any, .any, .any, .any, .s H.length 0 (arN l lift n).length (.u 0), .v (.int .i64 n)] ++ junk 68, H ++ [⟨(arN l lift n).flatMap (rowL .i64 3), 82, .own 3⟩]⟩) (fun n => n ≤ l.length) (fun n => l.length - n) 0 (Weak.slots ?_) ?_ fun n hn => ?_
  · simp [go_sem, arN]
  · simp
  rcases Int.lt_or_le (n : Int) l.length with hc1 | hc1
  · obtain ⟨i, off, c, b, rfl, hat, hfit⟩ := h.full (by omega)
    have hlt := hat.lt
    have g2 : ∀ L : List Blk, (H ++ L)[i]? = some b := fun L => get_app hat.get
    have wz : ∀ f : Nat → Int, wr [.v (.int .i64 0), .v (.int .i64 0), .v (.int .i64 0)] 0 (rowL .i64 3 f) = rowL .i64 3 f := fun f => rfl
    have q30 : ∀ f : Nat → Int, cel (rowL .i64 3 f) 0 = .v (.int .i64 (f 0)) := fun f => rfl
    have q31 : ∀ f : Nat → Int, cel (rowL .i64 3 f) 1 = .v (.int .i64 (f 1)) := fun f => rfl
    have q32 : ∀ f : Nat → Int, cel (rowL .i64 3 f) 2 = .v (.int .i64 (f 2)) := fun f => rfl
    have s30 : ∀ f : Nat → Int, seg (rowL .i64 3 f) 0 3 = rowL .i64 3 f := fun f => rfl
    have hl3 : ∀ f : Nat → Int, (rowL .i64 3 f).length = 3 := hz3
    have hn2 : norefs H.length ((arN l lift n).flatMap (rowL .i64 3)) = true := (flat_rowL .i64 3).norefs _ _
    have hl2 : ((arN l lift n).flatMap (rowL .i64 3)).length = (arN l lift n).length * 3 := (flat_rowL .i64 3).flen _
    by_cases h0 : n = 0
    · subst h0
      have hj0 : 0 < l.length := by omega
      have pf0 : off + 3 ≤ b.cells.length := by simpa using hat.fits encK 3 encK_len hj0 (by omega)
      have pa0 : seg b.cells off 3 = encK l[0] := by simpa using hat.elem encK 3 encK_len hj0
      have z0 : ((0 : Nat) : Int).toNat = 0 := rfl
      have hal0 := arN_len l lift 0
      have z1 : (((0 : Nat) : Int) < (l.length : Int)) = True := eq_true hc1
      have z2 : ((0 : Int) < ((0 : Nat) : Int)) = False := eq_false (by omega)
      have hn1 : norefH H.length H := norefH_wf hw (Nat.le_refl _)
      have hd1 : (H.length + 1 = H.length) = False := eq_false (by omega)
      have hd2 : (i = H.length) = False := eq_false (by omega)
      have hd3 : (H.length + 2 = H.length) = False := eq_false (by omega)
      have hd4 : (H.length + 3 = H.length) = False := eq_false (by omega)
      have hd5 : (H.length + 4 = H.length) = False := eq_false (by omega)
      repeat (first | (simp only [go_sem, Int.reduceLT, Int.reduceLE, Int.reduceEq, Int.reduceToNat, hL, hat.get, g2, hat.live, hlt, celK0, celK1, celK2, encK_len, pf0, pa0, wz, q30, q31, q32, s30, hl3, z0, z1, z2, Nat.zero_mul, Nat.add_zero, hn1, hn2, hl2, hd1, hd2, hd3, hd4, hd5, hx]) | ((with_reducible refine And.intro ?_ ?_); omega) | ((with_reducible refine isSK ?_); first | (refine call_ret (l03Numbers (okK_KyW (tkOk_at e hj0).1)) (by simp only [go_sem, Int.reduceLT, Int.reduceLE, Int.reduceEq, Int.reduceToNat, hL, hat.get, g2, hat.live, hlt, celK0, celK1, celK2, encK_len, pf0, pa0, wz, q30, q31, q32, s30, hl3, z0, z1, z2, Nat.zero_mul, Nat.add_zero, hn1, hn2, hl2, hd1, hd2, hd3, hd4, hd5, hx]) ?_)) | ((with_reducible refine isMC ?_); first | (refine mcall_ret (l03Numbers (okK_KyW (tkOk_at e hj0).1)) (by simp only [go_sem, Int.reduceLT, Int.reduceLE, Int.reduceEq, Int.reduceToNat, hL, hat.get, g2, hat.live, hlt, celK0, celK1, celK2, encK_len, pf0, pa0, wz, q30, q31, q32, s30, hl3, z0, z1, z2, Nat.zero_mul, Nat.add_zero, hn1, hn2, hl2, hd1, hd2, hd3, hd4, hd5, hx]) (by simp only [go_sem, Int.reduceLT, Int.reduceLE, Int.reduceEq, Int.reduceToNat, hL, hat.get, g2, hat.live, hlt, celK0, celK1, celK2, encK_len, pf0, pa0, wz, q30, q31, q32, s30, hl3, z0, z1, z2, Nat.zero_mul, Nat.add_zero, hn1, hn2, hl2, hd1, hd2, hd3, hd4, hd5, hx]) ?_)) | ((with_reducible refine isWKr (id := 13) ?_); refine WK_drawUp 13 [[],[],[1],[],[3],[1,2,3,4],[1,2,3,4,5],[],[],[8],[],[10],[8,9,10,11],[],[8,9,10,11,12,13],[1,2,3,4,5,6,7,8,9,10,11,12,13,14],[1,2,3,4,5,6,7,8,9,10,11,12,13,14,15],[0,1,2,3,4,5,6,7,8,9,10,11,12,13,14,15,16],[0,1,2,3,4,5,6,7,8,9,10,11,12,13,14,15,16,17]] 17 (by kernel_rfl) ?_; dsimp only [List.take, List.drop]) | ((with_reducible refine And.intro ?_ ?_); first | (with_reducible rfl) | assumption | (simp only [go_sem]; done)))
      refine EK_again (0 + 1) ?_ (by omega) (by omega)
      have ha1 : arN l lift (0 + 1) = arN l lift 0 ++ [l[0]] := by
        show arN l lift 0 ++ arS l lift 0 ++ [kAt l 0] = _
        rw [show arS l lift 0 = [] from rfl, kAt_at hj0, List.append_nil]
      rw [ha1, flat_snoc]
      exact Weak.keepN rfl (by simp [go_sem] <;> omega) (by simp [hx]) (by simp [go_sem, (flat_rowL .i64 3).lts, hlt] <;> omega) (hw.app (by simp [go_sem, (flat_rowL .i64 3).lts, hlt] <;> omega))
    obtain ⟨m, rfl⟩ : ∃ m, n = m + 1 := ⟨n - 1, by omega⟩
    have hj : m + 1 < l.length := by omega
    have hj1 : m < l.length := by omega
    have pe : At H i (off + m * 3) (rowK kK 3 (l[m]'hj1)) b := hat.el encK_len hj1
    have pf := hat.fits encK 3 encK_len hj1 (by omega)
    have pa := hat.elem encK 3 encK_len hj1
    have p0 : cel b.cells (off + m * 3) = .v (.int .i16 ((l[m]'hj1) 0)) := pe.celK (j := 0) (by omega)
    have p1 : cel b.cells (off + m * 3 + 1) = .v (.int .i8 ((l[m]'hj1) 1)) := pe.celK (j := 1) (by omega)
    have p2 : cel b.cells (off + m * 3 + 2) = .v (.int .i8 ((l[m]'hj1) 2)) := pe.celK (j := 2) (by omega)
    simp only [Nat.add_assoc] at p1 p2
    have pk := okK_iff.1 (tkOk_at e hj1).1
    have qe : At H i (off + (m + 1) * 3) (rowK kK 3 (l[m + 1]'hj)) b := hat.el encK_len hj
    have qf := hat.fits encK 3 encK_len hj (by omega)
    have qa := hat.elem encK 3 encK_len hj
    have q0 : cel b.cells (off + (m + 1) * 3) = .v (.int .i16 ((l[m + 1]'hj) 0)) := qe.celK (j := 0) (by omega)
    have q1 : cel b.cells (off + (m + 1) * 3 + 1) = .v (.int .i8 ((l[m + 1]'hj) 1)) := qe.celK (j := 1) (by omega)
    have q2 : cel b.cells (off + (m + 1) * 3 + 2) = .v (.int .i8 ((l[m + 1]'hj) 2)) := qe.celK (j := 2) (by omega)
    simp only [Nat.add_assoc] at q1 q2
    have qk := okK_iff.1 (tkOk_at e hj).1
    have il := inB_iff.1 b1
    have r1 := betweenR_range (a := l[m] 1) (b := l[m + 1] 1) (s := 500) (by omega) (by omega) pk.2.1 qk.2.1
    have r2 := betweenR_range (a := l[m] 2) (b := l[m + 1] 2) (s := 500) (by omega) (by omega) pk.2.2 qk.2.2
    have r3 : 0 ≤ (l[m] 0 + l[m + 1] 0).tdiv 2 ∧ (l[m] 0 + l[m + 1] 0).tdiv 2 ≤ 200 := by
      rw [Int.tdiv_eq_ediv_of_nonneg (by omega)]; omega
    have e3 : midK l lift (m + 1) = keyF ((l[m] 0 + l[m + 1] 0).tdiv 2) (betweenR (l[m] 1) (l[m + 1] 1) 500) (betweenR (l[m] 2) (l[m + 1] 2) 500 - lift) := by
      unfold midK; rw [show m + 1 - 1 = m from rfl, kAt_at hj1, kAt_at hj]
    have hd : (kAt l (m + 1) 0 - kAt l (m + 1 - 1) 0) = l[m + 1] 0 - l[m] 0 := by rw [show m + 1 - 1 = m from rfl, kAt_at hj1, kAt_at hj]
    have hal := arN_len l lift (m + 1)
    have hn1 : norefH H.length H := norefH_wf hw (Nat.le_refl _)
    have hd1 : (H.length + 1 = H.length) = False := eq_false (by omega)
    have hd2 : (i = H.length) = False := eq_false (by omega)
    have hd3 : (H.length + 2 = H.length) = False := eq_false (by omega)
    have hd4 : (H.length + 3 = H.length) = False := eq_false (by omega)
    have hd5 : (H.length + 4 = H.length) = False := eq_false (by omega)
    have t1 : (((m + 1 : Nat) : Int) - 1).toNat = m := by omega
    have z2 : ((0 : Int) < ((m + 1 : Nat) : Int)) = True := eq_true (by omega)
    by_cases hge : 2 ≤ l[m + 1] 0 - l[m] 0
    · have b2 : (2 ≤ l[m + 1] 0 - l[m] 0) = True := eq_true hge
      have hs : arN l lift (m + 1 + 1) = arN l lift (m + 1) ++ [midK l lift (m + 1)] ++ [l[m + 1]] := by
        rw [arN, arS, if_neg (by omega), if_pos (by rw [hd]; exact hge), kAt_at hj]
      have e4 : rowL .i64 3 (midK l lift (m + 1)) = [.v (.int .i64 ((l[m] 0 + l[m + 1] 0).tdiv 2)), .v (.int .i64 (betweenR (l[m] 1) (l[m + 1] 1) 500)), .v (.int .i64 (betweenR (l[m] 2) (l[m + 1] 2) 500 - lift))] := by rw [e3]; rfl
      repeat (first | (simp only [go_sem, Int.reduceLT, Int.reduceLE, Int.reduceEq, Int.reduceToNat, hL, hat.get, g2, hat.live, hlt, celK0, celK1, celK2, encK_len, hc1, pf, pa, p0, p1, p2, qf, qa, q0, q1, q2, t1, z2, b2, wz, q30, q31, q32, s30, hl3, hn1, hn2, hl2, hd1, hd2, hd3, hd4, hd5, hx]) | ((with_reducible refine And.intro ?_ ?_); omega) | ((with_reducible refine isSK ?_); first | (refine call_ret (l03Numbers (a := l[m + 1]) (okK_KyW (tkOk_at e hj).1)) (by simp only [go_sem, Int.reduceLT, Int.reduceLE, Int.reduceEq, Int.reduceToNat, hL, hat.get, g2, hat.live, hlt, celK0, celK1, celK2, encK_len, hc1, pf, pa, p0, p1, p2, qf, qa, q0, q1, q2, t1, z2, b2, wz, q30, q31, q32, s30, hl3, hn1, hn2, hl2, hd1, hd2, hd3, hd4, hd5, hx]) ?_) | (refine call_ret (l03Numbers (a := l[m]) (okK_KyW (tkOk_at e hj1).1)) (by simp only [go_sem, Int.reduceLT, Int.reduceLE, Int.reduceEq, Int.reduceToNat, hL, hat.get, g2, hat.live, hlt, celK0, celK1, celK2, encK_len, hc1, pf, pa, p0, p1, p2, qf, qa, q0, q1, q2, t1, z2, b2, wz, q30, q31, q32, s30, hl3, hn1, hn2, hl2, hd1, hd2, hd3, hd4, hd5, hx]) ?_) | (refine call_ret (l03Between (by omega) (by omega) (by omega) (by omega)) (by simp only [go_sem, Int.reduceLT, Int.reduceLE, Int.reduceEq, Int.reduceToNat, hL, hat.get, g2, hat.live, hlt, celK0, celK1, celK2, encK_len, hc1, pf, pa, p0, p1, p2, qf, qa, q0, q1, q2, t1, z2, b2, wz, q30, q31, q32, s30, hl3, hn1, hn2, hl2, hd1, hd2, hd3, hd4, hd5, hx]) ?_)) | ((with_reducible refine isMC ?_); first | (refine mcall_ret (l03Numbers (a := l[m + 1]) (okK_KyW (tkOk_at e hj).1)) (by simp only [go_sem, Int.reduceLT, Int.reduceLE, Int.reduceEq, Int.reduceToNat, hL, hat.get, g2, hat.live, hlt, celK0, celK1, celK2, encK_len, hc1, pf, pa, p0, p1, p2, qf, qa, q0, q1, q2, t1, z2, b2, wz, q30, q31, q32, s30, hl3, hn1, hn2, hl2, hd1, hd2, hd3, hd4, hd5, hx]) (by simp only [go_sem, Int.reduceLT, Int.reduceLE, Int.reduceEq, Int.reduceToNat, hL, hat.get, g2, hat.live, hlt, celK0, celK1, celK2, encK_len, hc1, pf, pa, p0, p1, p2, qf, qa, q0, q1, q2, t1, z2, b2, wz, q30, q31, q32, s30, hl3, hn1, hn2, hl2, hd1, hd2, hd3, hd4, hd5, hx]) ?_) | (refine mcall_ret (l03Numbers (a := l[m]) (okK_KyW (tkOk_at e hj1).1)) (by simp only [go_sem, Int.reduceLT, Int.reduceLE, Int.reduceEq, Int.reduceToNat, hL, hat.get, g2, hat.live, hlt, celK0, celK1, celK2, encK_len, hc1, pf, pa, p0, p1, p2, qf, qa, q0, q1, q2, t1, z2, b2, wz, q30, q31, q32, s30, hl3, hn1, hn2, hl2, hd1, hd2, hd3, hd4, hd5, hx]) (by simp only [go_sem, Int.reduceLT, Int.reduceLE, Int.reduceEq, Int.reduceToNat, hL, hat.get, g2, hat.live, hlt, celK0, celK1, celK2, encK_len, hc1, pf, pa, p0, p1, p2, qf, qa, q0, q1, q2, t1, z2, b2, wz, q30, q31, q32, s30, hl3, hn1, hn2, hl2, hd1, hd2, hd3, hd4, hd5, hx]) ?_) | (refine mcall_ret (l03Between (by omega) (by omega) (by omega) (by omega)) (by simp only [go_sem, Int.reduceLT, Int.reduceLE, Int.reduceEq, Int.reduceToNat, hL, hat.get, g2, hat.live, hlt, celK0, celK1, celK2, encK_len, hc1, pf, pa, p0, p1, p2, qf, qa, q0, q1, q2, t1, z2, b2, wz, q30, q31, q32, s30, hl3, hn1, hn2, hl2, hd1, hd2, hd3, hd4, hd5, hx]) (by simp only [go_sem, Int.reduceLT, Int.reduceLE, Int.reduceEq, Int.reduceToNat, hL, hat.get, g2, hat.live, hlt, celK0, celK1, celK2, encK_len, hc1, pf, pa, p0, p1, p2, qf, qa, q0, q1, q2, t1, z2, b2, wz, q30, q31, q32, s30, hl3, hn1, hn2, hl2, hd1, hd2, hd3, hd4, hd5, hx]) ?_)) | ((with_reducible refine isWKr (id := 13) ?_); refine WK_drawUp 13 [[],[],[1],[],[3],[1,2,3,4],[1,2,3,4,5],[],[],[8],[],[10],[8,9,10,11],[],[8,9,10,11,12,13],[1,2,3,4,5,6,7,8,9,10,11,12,13,14],[1,2,3,4,5,6,7,8,9,10,11,12,13,14,15],[0,1,2,3,4,5,6,7,8,9,10,11,12,13,14,15,16],[0,1,2,3,4,5,6,7,8,9,10,11,12,13,14,15,16,17]] 17 (by kernel_rfl) ?_; dsimp only [List.take, List.drop]) | ((with_reducible refine And.intro ?_ ?_); first | (with_reducible rfl) | assumption | (simp only [go_sem]; done)))
      refine EK_again (m + 1 + 1) ?_ (by omega) (by omega)
      rw [hs, flat_snoc, flat_snoc, e4, List.append_assoc ((arN l lift (m + 1)).flatMap (rowL .i64 3))]
      exact Weak.keepN rfl (by simp [go_sem] <;> omega) (by simp [hx]) (by simp [go_sem, (flat_rowL .i64 3).lts, hlt] <;> omega) (hw.app (by simp [go_sem, (flat_rowL .i64 3).lts, hlt] <;> omega))
    · have b2 : (2 ≤ l[m + 1] 0 - l[m] 0) = False := eq_false hge
      have hs : arN l lift (m + 1 + 1) = arN l lift (m + 1) ++ [l[m + 1]] := by
        rw [arN, arS, if_neg (by omega), if_neg (by rw [hd]; exact hge), kAt_at hj, List.append_nil]
      repeat (first | (simp only [go_sem, Int.reduceLT, Int.reduceLE, Int.reduceEq, Int.reduceToNat, hL, hat.get, g2, hat.live, hlt, celK0, celK1, celK2, encK_len, hc1, pf, pa, p0, p1, p2, qf, qa, q0, q1, q2, t1, z2, b2, wz, q30, q31, q32, s30, hl3, hn1, hn2, hl2, hd1, hd2, hd3, hd4, hd5, hx]) | ((with_reducible refine And.intro ?_ ?_); omega) | ((with_reducible refine isSK ?_); first | (refine call_ret (l03Numbers (a := l[m + 1]) (okK_KyW (tkOk_at e hj).1)) (by simp only [go_sem, Int.reduceLT, Int.reduceLE, Int.reduceEq, Int.reduceToNat, hL, hat.get, g2, hat.live, hlt, celK0, celK1, celK2, encK_len, hc1, pf, pa, p0, p1, p2, qf, qa, q0, q1, q2, t1, z2, b2, wz, q30, q31, q32, s30, hl3, hn1, hn2, hl2, hd1, hd2, hd3, hd4, hd5, hx]) ?_) | (refine call_ret (l03Numbers (a := l[m]) (okK_KyW (tkOk_at e hj1).1)) (by simp only [go_sem, Int.reduceLT, Int.reduceLE, Int.reduceEq, Int.reduceToNat, hL, hat.get, g2, hat.live, hlt, celK0, celK1, celK2, encK_len, hc1, pf, pa, p0, p1, p2, qf, qa, q0, q1, q2, t1, z2, b2, wz, q30, q31, q32, s30, hl3, hn1, hn2, hl2, hd1, hd2, hd3, hd4, hd5, hx]) ?_)) | ((with_reducible refine isMC ?_); first | (refine mcall_ret (l03Numbers (a := l[m + 1]) (okK_KyW (tkOk_at e hj).1)) (by simp only [go_sem, Int.reduceLT, Int.reduceLE, Int.reduceEq, Int.reduceToNat, hL, hat.get, g2, hat.live, hlt, celK0, celK1, celK2, encK_len, hc1, pf, pa, p0, p1, p2, qf, qa, q0, q1, q2, t1, z2, b2, wz, q30, q31, q32, s30, hl3, hn1, hn2, hl2, hd1, hd2, hd3, hd4, hd5, hx]) (by simp only [go_sem, Int.reduceLT, Int.reduceLE, Int.reduceEq, Int.reduceToNat, hL, hat.get, g2, hat.live, hlt, celK0, celK1, celK2, encK_len, hc1, pf, pa, p0, p1, p2, qf, qa, q0, q1, q2, t1, z2, b2, wz, q30, q31, q32, s30, hl3, hn1, hn2, hl2, hd1, hd2, hd3, hd4, hd5, hx]) ?_) | (refine mcall_ret (l03Numbers (a := l[m]) (okK_KyW (tkOk_at e hj1).1)) (by simp only [go_sem, Int.reduceLT, Int.reduceLE, Int.reduceEq, Int.reduceToNat, hL, hat.get, g2, hat.live, hlt, celK0, celK1, celK2, encK_len, hc1, pf, pa, p0, p1, p2, qf, qa, q0, q1, q2, t1, z2, b2, wz, q30, q31, q32, s30, hl3, hn1, hn2, hl2, hd1, hd2, hd3, hd4, hd5, hx]) (by simp only [go_sem, Int.reduceLT, Int.reduceLE, Int.reduceEq, Int.reduceToNat, hL, hat.get, g2, hat.live, hlt, celK0, celK1, celK2, encK_len, hc1, pf, pa, p0, p1, p2, qf, qa, q0, q1, q2, t1, z2, b2, wz, q30, q31, q32, s30, hl3, hn1, hn2, hl2, hd1, hd2, hd3, hd4, hd5, hx]) ?_)) | ((with_reducible refine isWKr (id := 13) ?_); refine WK_drawUp 13 [[],[],[1],[],[3],[1,2,3,4],[1,2,3,4,5],[],[],[8],[],[10],[8,9,10,11],[],[8,9,10,11,12,13],[1,2,3,4,5,6,7,8,9,10,11,12,13,14],[1,2,3,4,5,6,7,8,9,10,11,12,13,14,15],[0,1,2,3,4,5,6,7,8,9,10,11,12,13,14,15,16],[0,1,2,3,4,5,6,7,8,9,10,11,12,13,14,15,16,17]] 17 (by kernel_rfl) ?_; dsimp only [List.take, List.drop]) | ((with_reducible refine And.intro ?_ ?_); first | (with_reducible rfl) | assumption | (simp only [go_sem]; done)))
      refine EK_again (m + 1 + 1) ?_ (by omega) (by omega)
      rw [hs, flat_snoc]
      exact Weak.keepN rfl (by simp [go_sem] <;> omega) (by simp [hx]) (by simp [go_sem, (flat_rowL .i64 3).lts, hlt] <;> omega) (hw.app (by simp [go_sem, (flat_rowL .i64 3).lts, hlt] <;> omega))
  have hnl : n = l.length := by omega
  subst hnl
  have hal := arL_len l lift
  have hal2 := arN_len l lift l.length
  repeat (first | (simp only [go_sem, Int.reduceLT, Int.reduceLE, Int.reduceEq, Int.reduceToNat, hL, Int.not_lt.2 hc1]) | ((with_reducible refine And.intro ?_ ?_); omega) | ((with_reducible refine isSK ?_); first | (refine call_ret (l03Made_ok (L := arN l lift l.length) (Rd.own0 rfl rfl rfl) hv2) (by simp only [go_sem, Int.reduceLT, Int.reduceLE, Int.reduceEq, Int.reduceToNat, hL, Int.not_lt.2 hc1]) ?_)) | ((with_reducible refine isMC ?_); first | (refine mcall_ret (l03Made_ok (L := arN l lift l.length) (Rd.own0 rfl rfl rfl) hv2) (by simp only [go_sem, Int.reduceLT, Int.reduceLE, Int.reduceEq, Int.reduceToNat, hL, Int.not_lt.2 hc1]) (by simp only [go_sem, Int.reduceLT, Int.reduceLE, Int.reduceEq, Int.reduceToNat, hL, Int.not_lt.2 hc1]) ?_)) | ((with_reducible refine isWKr (id := 13) ?_); refine WK_drawUp 13 [[],[],[1],[],[3],[1,2,3,4],[1,2,3,4,5],[],[],[8],[],[10],[8,9,10,11],[],[8,9,10,11,12,13],[1,2,3,4,5,6,7,8,9,10,11,12,13,14],[1,2,3,4,5,6,7,8,9,10,11,12,13,14,15],[0,1,2,3,4,5,6,7,8,9,10,11,12,13,14,15,16],[0,1,2,3,4,5,6,7,8,9,10,11,12,13,14,15,16,17]] 17 (by kernel_rfl) ?_; dsimp only [List.take, List.drop]) | ((with_reducible refine And.intro ?_ ?_); first | (with_reducible rfl) | assumption | (simp only [go_sem]; done)))
  refine ret_one hq hw _ (.inl rfl) 1 rfl (of_eq_true (flat_encK.lts _ _)) (.t [.s H.length 0 (arL l lift).length (.u 0), .v (.int .i64 0)]) (by simp [go_sem]) ?_
  simp [go_sem, conc, concs, upσ, Cap.val, hal]
  try rfl
end Go.Proofs.YtcebmjajnbafoaaGreatDoor
