/- Contracts of functions of the translated program, by the walk. -/
import Derived.Test.YtcebmjajnbafoaaGreatDoorK9
set_option linter.unusedVariables false
set_option linter.unusedSimpArgs false
set_option maxRecDepth 8000
set_option maxHeartbeats 16000000
namespace Go.Proofs.YtcebmjajnbafoaaGreatDoor
open Go Go.Sx
def nth0 (l : List Int) (n : Nat) : Int := l[n]?.getD 0
theorem nth0_at {l : List Int} {n : Nat} (h : n < l.length) : nth0 l n = l[n] := by unfold nth0; rw [List.getElem?_eq_getElem h]; rfl
def mxT (l : List Int) : Nat → Int
  | 0 => nth0 l 0
  | n + 1 => max (mxT l n) (nth0 l (n + 1))
def bT (l : List Int) : Nat → Nat
  | 0 => 0
  | k + 1 => if nth0 l (bT l k) < nth0 l (k + 1) then k + 1 else bT l k
theorem bT_le (l : List Int) : ∀ k, bT l k ≤ k
  | 0 => Nat.le_refl _
  | k + 1 => by unfold bT; have := bT_le l k; split <;> omega
theorem bT_max (l : List Int) : ∀ k, nth0 l (bT l k) = mxT l k ∧ ∀ j, j < bT l k → nth0 l j < mxT l k
  | 0 => ⟨rfl, fun j hj => by simp [bT] at hj⟩
  | k + 1 => by
    obtain ⟨h1, h2⟩ := bT_max l k
    have h3 : ∀ j, j ≤ k → nth0 l j ≤ mxT l k := by
      intro j hj
      clear h1 h2
      induction k with
      | zero => have : j = 0 := by omega
                subst this; exact Int.le_refl _
      | succ k ih =>
        rw [mxT]
        by_cases e : j ≤ k
        · have := ih e; omega
        · have : j = k + 1 := by omega
          subst this; omega
    unfold bT
    split
    · rename_i h
      rw [mxT]
      refine ⟨by omega, fun j hj => ?_⟩
      have := h3 j (by omega)
      omega
    · rename_i h
      rw [mxT]
      refine ⟨by omega, fun j hj => ?_⟩
      have := h2 j hj
      omega
theorem bT_idx {l : List Int} (h : 0 < l.length) : idxL (fun x => decide (x = mxT l (l.length - 1))) l = bT l (l.length - 1) := by
  obtain ⟨h1, h2⟩ := bT_max l (l.length - 1)
  have hle := bT_le l (l.length - 1)
  have hb : bT l (l.length - 1) < l.length := by omega
  refine idxL_at hb ?_ fun j hj hj2 => ?_
  · rw [← nth0_at hb]; exact decide_eq_true h1
  · have := h2 j hj2
    rw [nth0_at hj] at this
    exact decide_eq_false (by omega)
theorem slicesMax {H : List Blk} {v : V} {l : List Int} (h : Rd H v i64C l) (hl : l.length ≤ 1000000) (h0 : 0 < l.length) :
    Cal Tryz.prog 58 [v] H fun u H' => u = .v (.int .i64 (mxT l (l.length - 1))) ∧ H' = H := by
  have hsol := h.solid
  have hL := h.lenV (P := Tryz.prog) slTy34
  obtain ⟨i, off, c, b, rfl, hat⟩ := h.row h0
  have hll := hat.len (by rw [flat_i64.flen]; omega)
  rw [flat_i64.flen] at hll
  have hz := hat.i64 h0
  rw [← nth0_at h0] at hz
  simp only [Nat.add_zero] at hz
  have e1 : ((l.length : Int) < 1) = False := eq_false (by omega)
  refine cal_fn 24 mixed Tryz.func58 Tryz.ntmps58 Tryz.results58 rfl rfl rfl fun hw cx hx hq => ?_
  repeat (first | (simp only [go_sem, Int.reduceLT, Int.reduceLE, Int.reduceEq, Int.reduceToNat, hsol, hL, e1, hat.get, hat.live, hz]) | ((with_reducible refine And.intro ?_ ?_); omega) | ((with_reducible refine And.intro ?_ ?_); first | (with_reducible rfl) | assumption | (simp only [go_sem]; done)))
  refine WK_for (fun n : Nat => ⟨[.s i off l.length c, .any, .any, .v (.int .i64 (mxT l n)), .v (.int .i64 ((n : Int) + 1))] ++ junk 20, H⟩) (fun n => n ≤ l.length - 1) (fun n => l.length - n) 0 (Weak.slots ?_) ?_ fun n hn => ?_
  · simp [go_sem, mxT]
  · simp
  rcases Int.lt_or_le ((n : Int) + 1) l.length with hc | hc
  · have hj : n + 1 < l.length := by omega
    have hz := hat.i64 hj
    rw [← nth0_at hj] at hz
    have t1 : ((n : Int) + 1).toNat = n + 1 := by omega
    repeat (first | (simp only [go_sem, Int.reduceLT, Int.reduceLE, Int.reduceEq, Int.reduceToNat, hL, hc, hat.get, hat.live, t1, hz, iteMax]) | ((with_reducible refine And.intro ?_ ?_); omega) | ((with_reducible refine And.intro ?_ ?_); first | (with_reducible rfl) | assumption | (simp only [go_sem]; done)))
    refine EK_again (n + 1) ?_ (by omega) (by omega)
    rw [mxT]
    exact Weak.slots (by simp [go_sem])
  · have : n = l.length - 1 := by omega
    subst this
    repeat (first | (simp only [go_sem, Int.reduceLT, Int.reduceLE, Int.reduceEq, Int.reduceToNat, hL, Int.not_lt.2 hc]) | ((with_reducible refine And.intro ?_ ?_); omega) | ((with_reducible refine And.intro ?_ ?_); first | (with_reducible rfl) | assumption | (simp only [go_sem]; done)))
    refine ret_same hq _ (.inl rfl) ?_
    simp [go_sem]
theorem slicesIndex {H : List Blk} {v : V} {l : List Int} {x : Int} (h : Rd H v i64C l) (hl : l.length ≤ 1000000) :
    Cal Tryz.prog 59 [v, .v (.int .i64 x)] H fun u H' => u = .v (.int .i64 (idxL (fun y => decide (y = x)) l)) ∧ H' = H := by
  have hsol := h.solid
  have hL := h.lenV (P := Tryz.prog) slTy34
  refine cal_fn 17 mixed Tryz.func59 Tryz.ntmps59 Tryz.results59 rfl rfl rfl fun hw cx hx hq => ?_
  repeat (first | (simp only [go_sem, Int.reduceLT, Int.reduceLE, Int.reduceEq, Int.reduceToNat, hsol, hL]) | ((with_reducible refine And.intro ?_ ?_); omega) | ((with_reducible refine And.intro ?_ ?_); first | (with_reducible rfl) | assumption | (simp only [go_sem]; done)))
  refine WK_for (fun n : Nat => ⟨[v, .v (.int .i64 x), .any, .any, .any, .any, .any, .v (.int .i64 l.length), .v (.int .i64 n)] ++ junk 10, H⟩) (fun n => n ≤ l.length ∧ ∀ j (hj : j < l.length), j < n → decide (l[j] = x) = false) (fun n => l.length - n) 0 (Weak.slots ?_) ?_ fun n hn => ?_
  · simp [go_sem]
  · simp
  rcases Int.lt_or_le (n : Int) l.length with hc | hc
  · have hj : n < l.length := by omega
    obtain ⟨i, off, c, b, rfl, hat⟩ := h.row (by omega)
    have hll := hat.len (by rw [flat_i64.flen]; omega)
    rw [flat_i64.flen] at hll
    have hz := hat.i64 hj
    by_cases e : l[n] = x
    · have e1 : (x = l[n]) = True := eq_true e.symm
      repeat (first | (simp only [go_sem, Int.reduceLT, Int.reduceLE, Int.reduceEq, Int.reduceToNat, hc, hat.get, hat.live, hz, e1]) | ((with_reducible refine And.intro ?_ ?_); omega) | ((with_reducible refine And.intro ?_ ?_); first | (with_reducible rfl) | assumption | (simp only [go_sem]; done)))
      refine ret_same hq _ (.inl rfl) ?_
      rw [idxL_at hj (decide_eq_true e) hn.2]
      simp [go_sem]
    · have e1 : (x = l[n]) = False := eq_false fun h => e h.symm
      repeat (first | (simp only [go_sem, Int.reduceLT, Int.reduceLE, Int.reduceEq, Int.reduceToNat, hc, hat.get, hat.live, hz, e1]) | ((with_reducible refine And.intro ?_ ?_); omega) | ((with_reducible refine And.intro ?_ ?_); first | (with_reducible rfl) | assumption | (simp only [go_sem]; done)))
      refine EK_again (n + 1) (Weak.slots (by simp [go_sem])) ⟨by omega, fun j hj2 hj3 => ?_⟩ (by omega)
      by_cases e2 : j = n
      · subst e2; first | exact e | exact decide_eq_false e
      · first | exact hn.2 j hj2 (by omega) | exact of_decide_eq_false (hn.2 j hj2 (by omega))
  · repeat (first | (simp only [go_sem, Int.reduceLT, Int.reduceLE, Int.reduceEq, Int.reduceToNat, Int.not_lt.2 hc]) | ((with_reducible refine And.intro ?_ ?_); omega) | ((with_reducible refine And.intro ?_ ?_); first | (with_reducible rfl) | assumption | (simp only [go_sem]; done)))
    refine ret_same hq _ (.inl rfl) ?_
    rw [idxL_none fun j hj => hn.2 j hj (by omega)]
    simp [go_sem]


theorem implSpeedsOf_ok {H : List Blk} {v : V} {l : List (Nat → Int)} {e : Int} (h : Rd H v encK l) (hK : ∀ a ∈ l, KyW a) (hl : l.length ≤ 1000000) (hc : paC l e true = 0) :
    Cal Tryz.prog 14 [v, .v (.int .i64 e)] H fun u H' => u = .t [.s H.length 0 (tkN l) (.u 0), .v (.int .i64 0)] ∧ H' = H ++ [⟨(spL l e (tkN l)).flatMap i64C, 2, .own 1⟩] := by
  have hsol := h.solid
  have hv := (paC_ok hc).1
  refine cal_fn 14 mixed Tryz.func14 Tryz.ntmps14 Tryz.results14 rfl rfl rfl fun hw cx hx hq => ?_
  repeat (first | (simp only [go_sem, Int.reduceLT, Int.reduceLE, Int.reduceEq, Int.reduceToNat, hsol, hc]) | ((with_reducible refine And.intro ?_ ?_); omega) | ((with_reducible refine isSK ?_); first | (refine call_ret (checkTrack h hK hl) (by simp only [go_sem, Int.reduceLT, Int.reduceLE, Int.reduceEq, Int.reduceToNat, hsol, hc]) ?_) | (refine call_ret (trackSpeeds h hK hv) (by simp only [go_sem, Int.reduceLT, Int.reduceLE, Int.reduceEq, Int.reduceToNat, hsol, hc]) ?_)) | ((with_reducible refine And.intro ?_ ?_); first | (with_reducible rfl) | assumption | (simp only [go_sem]; done)))
  first | refine ret_at hq _ (.inl rfl) (by simp) ?_ | refine ret_one hq hw _ (.inl rfl) 0 rfl (of_eq_true (flat_i64.lts _ _)) _ (by simp [go_sem]) ?_
  simp [go_sem]
theorem specSpeedsOf_ok {H : List Blk} {v : V} {l : List (Nat → Int)} {e : Int} (h : Rd H v encK l) (hK : ∀ a ∈ l, KyW a) (hl : l.length ≤ 1000000) (hc : paC l e true = 0) :
    Cal Tryz.prog 15 [v, .v (.int .i64 e)] H fun u H' => u = .t [.s H.length 0 (tkN l) (.u 0), .v (.int .i64 0)] ∧ H' = H ++ [⟨(spL l e (tkN l)).flatMap i64C, 2, .own 1⟩] := by
  have hsol := h.solid
  have hv := (paC_ok hc).1
  refine cal_fn 15 mixed Tryz.func15 Tryz.ntmps15 Tryz.results15 rfl rfl rfl fun hw cx hx hq => ?_
  repeat (first | (simp only [go_sem, Int.reduceLT, Int.reduceLE, Int.reduceEq, Int.reduceToNat, hsol, hc]) | ((with_reducible refine And.intro ?_ ?_); omega) | ((with_reducible refine isSK ?_); first | (refine call_ret (l03Asked h hK hl) (by simp only [go_sem, Int.reduceLT, Int.reduceLE, Int.reduceEq, Int.reduceToNat, hsol, hc]) ?_) | (refine call_ret (l03Speeds h hK hv) (by simp only [go_sem, Int.reduceLT, Int.reduceLE, Int.reduceEq, Int.reduceToNat, hsol, hc]) ?_)) | ((with_reducible refine And.intro ?_ ?_); first | (with_reducible rfl) | assumption | (simp only [go_sem]; done)))
  first | refine ret_at hq _ (.inl rfl) (by simp) ?_ | refine ret_one hq hw _ (.inl rfl) 0 rfl (of_eq_true (flat_i64.lts _ _)) _ (by simp [go_sem]) ?_
  simp [go_sem]
theorem implSpeedsOf_okF {H : List Blk} {v : V} {l : List (Nat → Int)} {e : Int} (h : Rd H v encK l) (hK : ∀ a ∈ l, KyW a) (hl : l.length ≤ 1000000) (hc : paC l e true = 0) :
    Cal Tryz.prog 14 [v, .v (.int .i64 e)] H fun u H' => u = .t [.s H.length 0 (spL l e (tkN l)).length (.u 0), .v (.int .i64 0)] ∧ H' = H ++ [⟨(spL l e (tkN l)).flatMap i64C, 2, .own 1⟩] := by
  rw [spL_len]; exact implSpeedsOf_ok h hK hl hc
theorem specSpeedsOf_okF {H : List Blk} {v : V} {l : List (Nat → Int)} {e : Int} (h : Rd H v encK l) (hK : ∀ a ∈ l, KyW a) (hl : l.length ≤ 1000000) (hc : paC l e true = 0) :
    Cal Tryz.prog 15 [v, .v (.int .i64 e)] H fun u H' => u = .t [.s H.length 0 (spL l e (tkN l)).length (.u 0), .v (.int .i64 0)] ∧ H' = H ++ [⟨(spL l e (tkN l)).flatMap i64C, 2, .own 1⟩] := by
  rw [spL_len]; exact specSpeedsOf_ok h hK hl hc
/-- FastestTick's code, tick and speed. -/
def ftC (l : List (Nat → Int)) (e : Int) : Int := if paC l e true = 0 then (if tkN l = 0 then 6 else 0) else paC l e true
def ftT (l : List (Nat → Int)) (e : Int) : Int := if ftC l e = 0 then kAt l 0 0 + 1 + bT (spL l e (tkN l)) (tkN l - 1) else 0
def ftM (l : List (Nat → Int)) (e : Int) : Int := if ftC l e = 0 then mxT (spL l e (tkN l)) (tkN l - 1) else 0

theorem implFastestTick {H : List Blk} {v : V} {l : List (Nat → Int)} {e : Int} (h : Rd H v encK l) (hK : ∀ a ∈ l, KyW a) (hl : l.length ≤ 1000000) :
    Cal Tryz.prog 22 [v, .v (.int .i64 e)] H fun u H' => u = .t [.v (.int .i64 (ftT l e)), .v (.int .i64 (ftM l e)), .v (.int .i64 (ftC l e))] ∧ H' = H := by
  have hsol := h.solid
  have hv0 := h
  refine cal_fn 33 mixed Tryz.func22 Tryz.ntmps22 Tryz.results22 rfl rfl rfl fun hw cx hx hq => ?_
  by_cases hc : paC l e true = 0
  case neg =>
    have hc0 : (paC l e true = 0) = False := eq_false hc
    have hC : ftC l e = paC l e true := by unfold ftC; rw [if_neg hc]
    have hT : ftT l e = 0 := by unfold ftT; rw [if_neg (by rw [hC]; exact hc)]
    have hM : ftM l e = 0 := by unfold ftM; rw [if_neg (by rw [hC]; exact hc)]
    repeat (first | (simp only [go_sem, Int.reduceLT, Int.reduceLE, Int.reduceEq, Int.reduceToNat, hsol, hc0]) | ((with_reducible refine And.intro ?_ ?_); omega) | ((with_reducible refine isSK ?_); first | (refine call_ret (checkTrack h hK hl) (by simp only [go_sem, Int.reduceLT, Int.reduceLE, Int.reduceEq, Int.reduceToNat, hsol, hc0]) ?_)) | ((with_reducible refine isMC ?_); first | (refine mcall_ret (checkTrack h hK hl) (by simp only [go_sem, Int.reduceLT, Int.reduceLE, Int.reduceEq, Int.reduceToNat, hsol, hc0]) (by simp only [go_sem, Int.reduceLT, Int.reduceLE, Int.reduceEq, Int.reduceToNat, hsol, hc0]) ?_)) | ((with_reducible refine isWKr (id := 8) ?_); refine WK_drawAt 8 [[],[0],[0,1],[0,1,2],[0,1,2,3],[0,1,2,3,4],[],[],[6,7],[0,1,2,3,4,5,6,7,8],[],[0,1,2,3,4,5,6,7,8,9],[0,1,2,3,4,5,6,7,8,9,10,11],[0,1,2,3,4,5,6,7,8,9,10,11,12]] (by kernel_rfl) ?_) | ((with_reducible refine And.intro ?_ ?_); first | (with_reducible rfl) | assumption | (simp only [go_sem]; done)))
    refine ret_same hq _ (.inl rfl) ?_
    simp [go_sem, hC, hT, hM]
  have hv := (paC_ok hc).1
  have hlen := tkOk_len hv
  have hN := (tkN_eq hv).2
  by_cases hz : tkN l = 0
  · have hC : ftC l e = 6 := by unfold ftC; rw [if_pos hc, if_pos hz]
    have hT : ftT l e = 0 := by unfold ftT; rw [hC]; rfl
    have hM : ftM l e = 0 := by unfold ftM; rw [hC]; rfl
    have hz1 : ((tkN l : Int) = 0) = True := eq_true (by omega)
    repeat (first | (simp only [go_sem, Int.reduceLT, Int.reduceLE, Int.reduceEq, Int.reduceToNat, hsol, hc, hz1]) | ((with_reducible refine And.intro ?_ ?_); omega) | ((with_reducible refine isSK ?_); first | (refine call_ret (checkTrack h hK hl) (by simp only [go_sem, Int.reduceLT, Int.reduceLE, Int.reduceEq, Int.reduceToNat, hsol, hc, hz1]) ?_) | (refine call_ret (trackSpeeds h hK hv) (by simp only [go_sem, Int.reduceLT, Int.reduceLE, Int.reduceEq, Int.reduceToNat, hsol, hc, hz1]) ?_)) | ((with_reducible refine isMC ?_); first | (refine mcall_ret (checkTrack h hK hl) (by simp only [go_sem, Int.reduceLT, Int.reduceLE, Int.reduceEq, Int.reduceToNat, hsol, hc, hz1]) (by simp only [go_sem, Int.reduceLT, Int.reduceLE, Int.reduceEq, Int.reduceToNat, hsol, hc, hz1]) ?_) | (refine mcall_ret (trackSpeeds h hK hv) (by simp only [go_sem, Int.reduceLT, Int.reduceLE, Int.reduceEq, Int.reduceToNat, hsol, hc, hz1]) (by simp only [go_sem, Int.reduceLT, Int.reduceLE, Int.reduceEq, Int.reduceToNat, hsol, hc, hz1]) ?_)) | ((with_reducible refine isWKr (id := 8) ?_); refine WK_drawAt 8 [[],[0],[0,1],[0,1,2],[0,1,2,3],[0,1,2,3,4],[],[],[6,7],[0,1,2,3,4,5,6,7,8],[],[0,1,2,3,4,5,6,7,8,9],[0,1,2,3,4,5,6,7,8,9,10,11],[0,1,2,3,4,5,6,7,8,9,10,11,12]] (by kernel_rfl) ?_) | ((with_reducible refine And.intro ?_ ?_); first | (with_reducible rfl) | assumption | (simp only [go_sem]; done)))
    refine ret_cut hq hw _ (.inl rfl) ?_
    simp [go_sem, hC, hT, hM]
  have hz1 : ((tkN l : Int) = 0) = False := eq_false (by omega)
  have hC : ftC l e = 0 := by unfold ftC; rw [if_pos hc, if_neg hz]
  have hT : ftT l e = kAt l 0 0 + 1 + bT (spL l e (tkN l)) (tkN l - 1) := by unfold ftT; rw [if_pos hC]
  have hM : ftM l e = mxT (spL l e (tkN l)) (tkN l - 1) := by unfold ftM; rw [if_pos hC]
  have hsl := spL_len l e (tkN l)
  have hj0 : 0 < l.length := by omega
  have k0 : kAt l 0 0 = l[0] 0 := by rw [kAt_at hj0]
  rw [k0] at hT
  obtain ⟨i, off, c, b, rfl, hat, hfit⟩ := h.full (by omega)
  have hlt := hat.lt
  have g2 : ∀ L : List Blk, (H ++ L)[i]? = some b := fun L => get_app hat.get
  have pf : off + 3 ≤ b.cells.length := by simpa using hat.fits encK 3 encK_len hj0 (by omega)
  have pe : At H i off (rowK kK 3 l[0]) b := by
    have := hat.el encK_len hj0
    rw [Nat.zero_mul, Nat.add_zero] at this; exact this
  have p0 : cel b.cells off = .v (.int .i16 (l[0] 0)) := pe.celK (j := 0) (by omega)
  have pk := okK_iff.1 (tkOk_at hv hj0).1
  have hbl := bT_le (spL l e (tkN l)) (tkN l - 1)
  have hbi := bT_idx (l := spL l e (tkN l)) (by omega)
  rw [hsl] at hbi
  have hmx := hM
  repeat (first | (simp only [go_sem, Int.reduceLT, Int.reduceLE, Int.reduceEq, Int.reduceToNat, hsol, hc, hz1, hat.get, g2, hat.live, pf, p0, hsl, hbi]) | ((with_reducible refine And.intro ?_ ?_); omega) | ((with_reducible refine isSK ?_); first | (refine call_ret (checkTrack h hK hl) (by simp only [go_sem, Int.reduceLT, Int.reduceLE, Int.reduceEq, Int.reduceToNat, hsol, hc, hz1, hat.get, g2, hat.live, pf, p0, hsl, hbi]) ?_) | (refine call_ret (trackSpeeds h hK hv) (by simp only [go_sem, Int.reduceLT, Int.reduceLE, Int.reduceEq, Int.reduceToNat, hsol, hc, hz1, hat.get, g2, hat.live, pf, p0, hsl, hbi]) ?_) | (refine call_ret (slicesMax (l := spL l e (tkN l)) (Rd.own0 rfl rfl (by omega)) (by omega) (by omega)) (by simp only [go_sem, Int.reduceLT, Int.reduceLE, Int.reduceEq, Int.reduceToNat, hsol, hc, hz1, hat.get, g2, hat.live, pf, p0, hsl, hbi]) ?_) | (refine call_ret (slicesIndex (l := spL l e (tkN l)) (Rd.own0 rfl rfl (by omega)) (by omega)) (by simp only [go_sem, Int.reduceLT, Int.reduceLE, Int.reduceEq, Int.reduceToNat, hsol, hc, hz1, hat.get, g2, hat.live, pf, p0, hsl, hbi]) ?_)) | ((with_reducible refine isMC ?_); first | (refine mcall_ret (checkTrack h hK hl) (by simp only [go_sem, Int.reduceLT, Int.reduceLE, Int.reduceEq, Int.reduceToNat, hsol, hc, hz1, hat.get, g2, hat.live, pf, p0, hsl, hbi]) (by simp only [go_sem, Int.reduceLT, Int.reduceLE, Int.reduceEq, Int.reduceToNat, hsol, hc, hz1, hat.get, g2, hat.live, pf, p0, hsl, hbi]) ?_) | (refine mcall_ret (trackSpeeds h hK hv) (by simp only [go_sem, Int.reduceLT, Int.reduceLE, Int.reduceEq, Int.reduceToNat, hsol, hc, hz1, hat.get, g2, hat.live, pf, p0, hsl, hbi]) (by simp only [go_sem, Int.reduceLT, Int.reduceLE, Int.reduceEq, Int.reduceToNat, hsol, hc, hz1, hat.get, g2, hat.live, pf, p0, hsl, hbi]) ?_) | (refine mcall_ret (slicesMax (l := spL l e (tkN l)) (Rd.own0 rfl rfl (by omega)) (by omega) (by omega)) (by simp only [go_sem, Int.reduceLT, Int.reduceLE, Int.reduceEq, Int.reduceToNat, hsol, hc, hz1, hat.get, g2, hat.live, pf, p0, hsl, hbi]) (by simp only [go_sem, Int.reduceLT, Int.reduceLE, Int.reduceEq, Int.reduceToNat, hsol, hc, hz1, hat.get, g2, hat.live, pf, p0, hsl, hbi]) ?_) | (refine mcall_ret (slicesIndex (l := spL l e (tkN l)) (Rd.own0 rfl rfl (by omega)) (by omega)) (by simp only [go_sem, Int.reduceLT, Int.reduceLE, Int.reduceEq, Int.reduceToNat, hsol, hc, hz1, hat.get, g2, hat.live, pf, p0, hsl, hbi]) (by simp only [go_sem, Int.reduceLT, Int.reduceLE, Int.reduceEq, Int.reduceToNat, hsol, hc, hz1, hat.get, g2, hat.live, pf, p0, hsl, hbi]) ?_)) | ((with_reducible refine isWKr (id := 8) ?_); refine WK_drawAt 8 [[],[0],[0,1],[0,1,2],[0,1,2,3],[0,1,2,3,4],[],[],[6,7],[0,1,2,3,4,5,6,7,8],[],[0,1,2,3,4,5,6,7,8,9],[0,1,2,3,4,5,6,7,8,9,10,11],[0,1,2,3,4,5,6,7,8,9,10,11,12]] (by kernel_rfl) ?_) | ((with_reducible refine And.intro ?_ ?_); first | (with_reducible rfl) | assumption | (simp only [go_sem]; done)))
  first | refine ret_cut hq hw _ (.inl rfl) ?_ | refine ret_same hq _ (.inl rfl) ?_
  simp [go_sem, hC, hT, hM]

theorem specFastestTick {H : List Blk} {v : V} {l : List (Nat → Int)} {e : Int} (h : Rd H v encK l) (hK : ∀ a ∈ l, KyW a) (hl : l.length ≤ 1000000) :
    Cal Tryz.prog 23 [v, .v (.int .i64 e)] H fun u H' => u = .t [.v (.int .i64 (ftT l e)), .v (.int .i64 (ftM l e)), .v (.int .i64 (ftC l e))] ∧ H' = H := by
  have hsol := h.solid
  have hv0 := h
  refine cal_fn 49 mixed Tryz.func23 Tryz.ntmps23 Tryz.results23 rfl rfl rfl fun hw cx hx hq => ?_
  by_cases hc : paC l e true = 0
  case neg =>
    have hc0 : (paC l e true = 0) = False := eq_false hc
    have hC : ftC l e = paC l e true := by unfold ftC; rw [if_neg hc]
    have hT : ftT l e = 0 := by unfold ftT; rw [if_neg (by rw [hC]; exact hc)]
    have hM : ftM l e = 0 := by unfold ftM; rw [if_neg (by rw [hC]; exact hc)]
    repeat (first | (simp only [go_sem, Int.reduceLT, Int.reduceLE, Int.reduceEq, Int.reduceToNat, hsol, hc0]) | ((with_reducible refine And.intro ?_ ?_); omega) | ((with_reducible refine isSK ?_); first | (refine call_ret (l03Asked h hK hl) (by simp only [go_sem, Int.reduceLT, Int.reduceLE, Int.reduceEq, Int.reduceToNat, hsol, hc0]) ?_)) | ((with_reducible refine isMC ?_); first | (refine mcall_ret (l03Asked h hK hl) (by simp only [go_sem, Int.reduceLT, Int.reduceLE, Int.reduceEq, Int.reduceToNat, hsol, hc0]) (by simp only [go_sem, Int.reduceLT, Int.reduceLE, Int.reduceEq, Int.reduceToNat, hsol, hc0]) ?_)) | ((with_reducible refine isWKr (id := 11) ?_); refine WK_drawAt 11 [[],[],[0,1],[0,1,2],[],[],[4,5],[4,5,6],[0,1,2,3,4,5,6,7]] (by kernel_rfl) ?_) | ((with_reducible refine isWKr (id := 13) ?_); refine WK_drawAt 13 [[],[0],[0,1],[0,1,2],[0,1,2,3],[0,1,2,3,4],[],[0,1,2,3,4,5,6],[],[],[8,9],[8,9,10],[0,1,2,3,4,5,6,7],[0,1,2,3,4,5,6,7,8,9,10,11,12],[0,1,2,3,4,5,6,7,8,9,10,11,12,13]] (by kernel_rfl) ?_) | ((with_reducible refine And.intro ?_ ?_); first | (with_reducible rfl) | assumption | (simp only [go_sem]; done)))
    refine ret_same hq _ (.inl rfl) ?_
    simp [go_sem, hC, hT, hM]
  have hv := (paC_ok hc).1
  have hlen := tkOk_len hv
  have hN := (tkN_eq hv).2
  by_cases hz : tkN l = 0
  · have hC : ftC l e = 6 := by unfold ftC; rw [if_pos hc, if_pos hz]
    have hT : ftT l e = 0 := by unfold ftT; rw [hC]; rfl
    have hM : ftM l e = 0 := by unfold ftM; rw [hC]; rfl
    have hz1 : ((tkN l : Int) = 0) = True := eq_true (by omega)
    repeat (first | (simp only [go_sem, Int.reduceLT, Int.reduceLE, Int.reduceEq, Int.reduceToNat, hsol, hc, hz1]) | ((with_reducible refine And.intro ?_ ?_); omega) | ((with_reducible refine isSK ?_); first | (refine call_ret (l03Asked h hK hl) (by simp only [go_sem, Int.reduceLT, Int.reduceLE, Int.reduceEq, Int.reduceToNat, hsol, hc, hz1]) ?_) | (refine call_ret (l03Speeds h hK hv) (by simp only [go_sem, Int.reduceLT, Int.reduceLE, Int.reduceEq, Int.reduceToNat, hsol, hc, hz1]) ?_)) | ((with_reducible refine isMC ?_); first | (refine mcall_ret (l03Asked h hK hl) (by simp only [go_sem, Int.reduceLT, Int.reduceLE, Int.reduceEq, Int.reduceToNat, hsol, hc, hz1]) (by simp only [go_sem, Int.reduceLT, Int.reduceLE, Int.reduceEq, Int.reduceToNat, hsol, hc, hz1]) ?_) | (refine mcall_ret (l03Speeds h hK hv) (by simp only [go_sem, Int.reduceLT, Int.reduceLE, Int.reduceEq, Int.reduceToNat, hsol, hc, hz1]) (by simp only [go_sem, Int.reduceLT, Int.reduceLE, Int.reduceEq, Int.reduceToNat, hsol, hc, hz1]) ?_)) | ((with_reducible refine isWKr (id := 11) ?_); refine WK_drawAt 11 [[],[],[0,1],[0,1,2],[],[],[4,5],[4,5,6],[0,1,2,3,4,5,6,7]] (by kernel_rfl) ?_) | ((with_reducible refine isWKr (id := 13) ?_); refine WK_drawAt 13 [[],[0],[0,1],[0,1,2],[0,1,2,3],[0,1,2,3,4],[],[0,1,2,3,4,5,6],[],[],[8,9],[8,9,10],[0,1,2,3,4,5,6,7],[0,1,2,3,4,5,6,7,8,9,10,11,12],[0,1,2,3,4,5,6,7,8,9,10,11,12,13]] (by kernel_rfl) ?_) | ((with_reducible refine And.intro ?_ ?_); first | (with_reducible rfl) | assumption | (simp only [go_sem]; done)))
    refine ret_cut hq hw _ (.inl rfl) ?_
    simp [go_sem, hC, hT, hM]
  have hz1 : ((tkN l : Int) = 0) = False := eq_false (by omega)
  have hC : ftC l e = 0 := by unfold ftC; rw [if_pos hc, if_neg hz]
  have hT : ftT l e = kAt l 0 0 + 1 + bT (spL l e (tkN l)) (tkN l - 1) := by unfold ftT; rw [if_pos hC]
  have hM : ftM l e = mxT (spL l e (tkN l)) (tkN l - 1) := by unfold ftM; rw [if_pos hC]
  have hsl := spL_len l e (tkN l)
  have hj0 : 0 < l.length := by omega
  have k0 : kAt l 0 0 = l[0] 0 := by rw [kAt_at hj0]
  rw [k0] at hT
  obtain ⟨i, off, c, b, rfl, hat, hfit⟩ := h.full (by omega)
  have hlt := hat.lt
  have g2 : ∀ L : List Blk, (H ++ L)[i]? = some b := fun L => get_app hat.get
  have pf : off + 3 ≤ b.cells.length := by simpa using hat.fits encK 3 encK_len hj0 (by omega)
  have pe : At H i off (rowK kK 3 l[0]) b := by
    have := hat.el encK_len hj0
    rw [Nat.zero_mul, Nat.add_zero] at this; exact this
  have p0 : cel b.cells off = .v (.int .i16 (l[0] 0)) := pe.celK (j := 0) (by omega)
  have pk := okK_iff.1 (tkOk_at hv hj0).1
  have hbl := bT_le (spL l e (tkN l)) (tkN l - 1)
  repeat (first | (simp only [go_sem, Int.reduceLT, Int.reduceLE, Int.reduceEq, Int.reduceToNat, hsol, hc, hz1]) | ((with_reducible refine And.intro ?_ ?_); omega) | ((with_reducible refine isSK ?_); first | (refine call_ret (l03Asked h hK hl) (by simp only [go_sem, Int.reduceLT, Int.reduceLE, Int.reduceEq, Int.reduceToNat, hsol, hc, hz1]) ?_) | (refine call_ret (l03Speeds h hK hv) (by simp only [go_sem, Int.reduceLT, Int.reduceLE, Int.reduceEq, Int.reduceToNat, hsol, hc, hz1]) ?_)) | ((with_reducible refine isMC ?_); first | (refine mcall_ret (l03Asked h hK hl) (by simp only [go_sem, Int.reduceLT, Int.reduceLE, Int.reduceEq, Int.reduceToNat, hsol, hc, hz1]) (by simp only [go_sem, Int.reduceLT, Int.reduceLE, Int.reduceEq, Int.reduceToNat, hsol, hc, hz1]) ?_) | (refine mcall_ret (l03Speeds h hK hv) (by simp only [go_sem, Int.reduceLT, Int.reduceLE, Int.reduceEq, Int.reduceToNat, hsol, hc, hz1]) (by simp only [go_sem, Int.reduceLT, Int.reduceLE, Int.reduceEq, Int.reduceToNat, hsol, hc, hz1]) ?_)) | ((with_reducible refine isWKr (id := 11) ?_); refine WK_drawAt 11 [[],[],[0,1],[0,1,2],[],[],[4,5],[4,5,6],[0,1,2,3,4,5,6,7]] (by kernel_rfl) ?_) | ((with_reducible refine isWKr (id := 13) ?_); refine WK_drawAt 13 [[],[0],[0,1],[0,1,2],[0,1,2,3],[0,1,2,3,4],[],[0,1,2,3,4,5,6],[],[],[8,9],[8,9,10],[0,1,2,3,4,5,6,7],[0,1,2,3,4,5,6,7,8,9,10,11,12],[0,1,2,3,4,5,6,7,8,9,10,11,12,13]] (by kernel_rfl) ?_) | ((with_reducible refine And.intro ?_ ?_); first | (with_reducible rfl) | assumption | (simp only [go_sem]; done)))
  refine WK_for (fun n : Nat => ⟨[.s i off l.length c, .any, .any, .any, .any, .any, .any, .any, .s H.length 0 (tkN l) (.u 0), .v (.int .i64 (bT (spL l e (tkN l)) n)), .v (.int .i64 ((n : Int) + 1))] ++ junk 40, H ++ [⟨(spL l e (tkN l)).flatMap i64C, 2, .own 1⟩]⟩) (fun n => n ≤ tkN l - 1) (fun n => tkN l - n) 0 (Weak.slots ?_) ?_ fun n hn => ?_
  · simp [go_sem, bT]
  · simp
  have hb2 := bT_le (spL l e (tkN l)) n
  have hflb : ((spL l e (tkN l)).flatMap i64C).length = tkN l := by rw [flat_i64.flen, Nat.mul_one, hsl]
  have at0 : ∀ j (hj : j < tkN l), cel ((spL l e (tkN l)).flatMap i64C) j = .v (.int .i64 (nth0 (spL l e (tkN l)) j)) := fun j hj => by
    have := (At.mk0 (H := []) (L := []) (cs := (spL l e (tkN l)).flatMap i64C) (t := 0) (k := .own 1) rfl).i64 (show j < (spL l e (tkN l)).length by omega)
    rw [Nat.zero_add] at this
    rw [nth0_at (by omega)]; exact this
  rcases Int.lt_or_le ((n : Int) + 1) (tkN l : Int) with hc1 | hc1
  · have t1 : ((n : Int) + 1).toNat = n + 1 := by omega
    have x1 := at0 (n + 1) (by omega)
    have x2 := at0 (bT (spL l e (tkN l)) n) (by omega)
    by_cases hgt : nth0 (spL l e (tkN l)) (bT (spL l e (tkN l)) n) < nth0 (spL l e (tkN l)) (n + 1)
    · have b1 := eq_true hgt
      have hs : bT (spL l e (tkN l)) (n + 1) = n + 1 := by rw [bT, if_pos hgt]
      repeat (first | (simp only [go_sem, Int.reduceLT, Int.reduceLE, Int.reduceEq, Int.reduceToNat, hc1, t1, x1, x2, b1, hflb]) | ((with_reducible refine And.intro ?_ ?_); omega) | ((with_reducible refine isWKr (id := 11) ?_); refine WK_drawAt 11 [[],[],[0,1],[0,1,2],[],[],[4,5],[4,5,6],[0,1,2,3,4,5,6,7]] (by kernel_rfl) ?_) | ((with_reducible refine isWKr (id := 13) ?_); refine WK_drawAt 13 [[],[0],[0,1],[0,1,2],[0,1,2,3],[0,1,2,3,4],[],[0,1,2,3,4,5,6],[],[],[8,9],[8,9,10],[0,1,2,3,4,5,6,7],[0,1,2,3,4,5,6,7,8,9,10,11,12],[0,1,2,3,4,5,6,7,8,9,10,11,12,13]] (by kernel_rfl) ?_) | ((with_reducible refine And.intro ?_ ?_); first | (with_reducible rfl) | assumption | (simp only [go_sem]; done)))
      refine EK_again (n + 1) ?_ (by omega) (by omega)
      rw [hs]
      exact Weak.slots (by simp [go_sem])
    · have b1 := eq_false hgt
      have hs : bT (spL l e (tkN l)) (n + 1) = bT (spL l e (tkN l)) n := by rw [bT, if_neg hgt]
      repeat (first | (simp only [go_sem, Int.reduceLT, Int.reduceLE, Int.reduceEq, Int.reduceToNat, hc1, t1, x1, x2, b1, hflb]) | ((with_reducible refine And.intro ?_ ?_); omega) | ((with_reducible refine isWKr (id := 11) ?_); refine WK_drawAt 11 [[],[],[0,1],[0,1,2],[],[],[4,5],[4,5,6],[0,1,2,3,4,5,6,7]] (by kernel_rfl) ?_) | ((with_reducible refine isWKr (id := 13) ?_); refine WK_drawAt 13 [[],[0],[0,1],[0,1,2],[0,1,2,3],[0,1,2,3,4],[],[0,1,2,3,4,5,6],[],[],[8,9],[8,9,10],[0,1,2,3,4,5,6,7],[0,1,2,3,4,5,6,7,8,9,10,11,12],[0,1,2,3,4,5,6,7,8,9,10,11,12,13]] (by kernel_rfl) ?_) | ((with_reducible refine And.intro ?_ ?_); first | (with_reducible rfl) | assumption | (simp only [go_sem]; done)))
      refine EK_again (n + 1) ?_ (by omega) (by omega)
      rw [hs]
      exact Weak.slots (by simp [go_sem])
  · have hn1 : n = tkN l - 1 := by omega
    subst hn1
    have x2 := at0 (bT (spL l e (tkN l)) (tkN l - 1)) (by omega)
    rw [(bT_max (spL l e (tkN l)) (tkN l - 1)).1] at x2
    repeat (first | (simp only [go_sem, Int.reduceLT, Int.reduceLE, Int.reduceEq, Int.reduceToNat, Int.not_lt.2 hc1, hat.get, g2, hat.live, pf, p0, x2, hflb]) | ((with_reducible refine And.intro ?_ ?_); omega) | ((with_reducible refine isWKr (id := 11) ?_); refine WK_drawAt 11 [[],[],[0,1],[0,1,2],[],[],[4,5],[4,5,6],[0,1,2,3,4,5,6,7]] (by kernel_rfl) ?_) | ((with_reducible refine isWKr (id := 13) ?_); refine WK_drawAt 13 [[],[0],[0,1],[0,1,2],[0,1,2,3],[0,1,2,3,4],[],[0,1,2,3,4,5,6],[],[],[8,9],[8,9,10],[0,1,2,3,4,5,6,7],[0,1,2,3,4,5,6,7,8,9,10,11,12],[0,1,2,3,4,5,6,7,8,9,10,11,12,13]] (by kernel_rfl) ?_) | ((with_reducible refine And.intro ?_ ?_); first | (with_reducible rfl) | assumption | (simp only [go_sem]; done)))
    first | refine ret_cut hq hw _ (.inl rfl) ?_ | refine ret_same hq _ (.inl rfl) ?_
    simp [go_sem, hC, hT, hM]

end Go.Proofs.YtcebmjajnbafoaaGreatDoor
