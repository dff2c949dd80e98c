/- Contracts of functions of the translated program, by the walk. -/
import Derived.Test.YtpjimhkblldhaaaDoorT1
import Derived.Test.YtpjimhkblldhaaaDoorLD
set_option linter.unusedVariables false
set_option linter.unusedSimpArgs false
set_option maxRecDepth 8000
set_option maxHeartbeats 4000000
namespace Go.Proofs.YtpjimhkblldhaaaDoor
open Go Go.Sx
theorem roomBehind {H : List Blk} {n : Nat} (hn : n ≤ 1000000) : Cal Tryd.prog 28 [.v (.int .i64 n)] H fun u H' => u = .v (.int .i64 (room n)) ∧ H' = H := by
  refine cal_fn 9 mixed Tryd.func28 Tryd.ntmps28 Tryd.results28 rfl rfl rfl fun hw cx hx hq => ?_
  have e6 : ((n : Int).tmod 6 = 5) = (n % 6 = 5) := by apply propext; rw [Int.tmod_eq_emod_of_nonneg (by omega)]; omega
  have e3 : ((n : Int).tmod 3 = 0) = (n % 3 = 0) := by apply propext; rw [Int.tmod_eq_emod_of_nonneg (by omega)]; omega
  simp only [go_sem, e6, e3]
  repeat (refine And.intro (by omega) ?_)
  refine ⟨fun e => ?_, fun e => ?_⟩
  · refine ret_same hq _ (.inl rfl) ?_
    simp [go_sem, room, e]
  repeat (refine And.intro (by omega) ?_)
  refine ⟨fun e2 => ?_, fun e2 => ?_⟩
  · refine ret_same hq _ (.inl rfl) ?_
    simp [go_sem, room, e, e2]
  · refine ret_same hq _ (.inl rfl) ?_
    simp [go_sem, room, e, e2]
theorem fillerKey {H : List Blk} : Cal Tryd.prog 35 [] H fun v H' => v = .a (encK fillK) ∧ H' = H := by
  refine cal_fn 2 mixed Tryd.func35 Tryd.ntmps35 Tryd.results35 rfl rfl rfl fun hw cx hx hq => ?_
  repeat (first | (simp only [go_sem, Int.reduceLT, Int.reduceLE, Int.reduceEq, Int.reduceToNat]) | ((with_reducible refine And.intro ?_ ?_); omega) | ((with_reducible refine And.intro ?_ ?_); first | (with_reducible rfl) | assumption | (simp only [go_sem]; done)))
  refine ret_cut hq hw _ (.inl rfl) ?_
  simp [go_sem, encK, fillK, keyF]
theorem toKey {H : List Blk} {a : Nat → Int} : Cal Tryd.prog 34 [.a (encK a)] H fun v H' => v = .a (encK a) ∧ H' = H := by
  unfold encK
  refine cal_fn 13 mixed Tryd.func34 Tryd.ntmps34 Tryd.results34 rfl rfl rfl fun hw cx hx hq => ?_
  repeat (first | (simp only [go_sem, Int.reduceLT, Int.reduceLE, Int.reduceEq, Int.reduceToNat]) | ((with_reducible refine And.intro ?_ ?_); omega) | ((with_reducible refine And.intro ?_ ?_); first | (with_reducible rfl) | assumption | (simp only [go_sem]; done)))
  refine ret_cut hq hw _ (.inl rfl) ?_
  simp [go_sem]
theorem eqKeySelf {H : List Blk} {a : Nat → Int} : Cal Tryd.prog 45 [.a (encK a), .a (encK a)] H fun v H' => v = .v (.bool true) ∧ H' = H := by
  unfold encK
  refine cal_fn 18 mixed Tryd.func45 Tryd.ntmps45 Tryd.results45 rfl rfl rfl fun hw cx hx hq => ?_
  repeat (first | (simp only [go_sem, Int.reduceLT, Int.reduceLE, Int.reduceEq, Int.reduceToNat]) | ((with_reducible refine And.intro ?_ ?_); omega) | ((with_reducible refine And.intro ?_ ?_); first | (with_reducible rfl) | assumption | (simp only [go_sem]; done)))
  refine ret_cut hq hw _ (.inl rfl) ?_
  simp [go_sem]

theorem szTrack {H : List Blk} {v : V} {l : List (Nat → Int)} {k : Int} (h : Rd H v encK l) (hl : l.length ≤ 9223372036854775807) (hk : k = 1000000 ∨ (0 ≤ k ∧ k ≤ 1000000)) : Cal Tryd.prog 11 [v, .v (.int .i64 k)] H fun u H' => u = .v (.int .i64 (if (l.length : Int) ≤ k then k - l.length else -1)) ∧ H' = H := by
  refine cal_fn 10 mixed Tryd.func11 Tryd.ntmps11 Tryd.results11 rfl rfl rfl fun hw cx hx hq => ?_
  have hL := h.lenV (P := Tryd.prog) slTy27
  simp only [go_sem, hL]
  repeat (refine And.intro (by omega) ?_)
  refine ⟨fun e => ?_, fun e => ?_⟩
  · refine ret_same hq _ (.inl rfl) ?_
    simp only [go_sem]
    rw [if_neg (by omega)]
  · refine ret_same hq _ (.inl rfl) ?_
    simp only [go_sem]
    rw [if_pos (by omega)]

theorem toTrack {H : List Blk} {v : V} {l : List (Nat → Int)} {b : Bool} (h : Rd H v encK l) (hl : l.length ≤ 1000000) (hb : b = false ∨ l ≠ []) :
    Cal Tryd.prog 13 [v, .v (.bool b)] H fun u H' => u = .s H.length 0 l.length (.k (l.length + room l.length)) ∧ H' = H ++ [⟨(l ++ List.replicate (room l.length) fillK).flatMap encK, 51, .fix⟩] := by
  have hL := h.lenV (P := Tryd.prog) slTy27
  have hsol := h.solid
  have hroom := room_le l.length
  have hcast : ((l.length : Int) + (room l.length : Int)) = ((l.length + room l.length : Nat) : Int) := by push_cast; rfl
  have hzr : ∀ n, zerosL [.v (.int .i16 0), .v (.int .i8 0), .v (.int .i8 0)] n = (List.replicate n ((fun _ => 0) : Nat → Int)).flatMap encK := fun n => zeros_flat encK (fun _ => 0) n
  refine cal_fn 49 mixed Tryd.func13 Tryd.ntmps13 Tryd.results13 rfl rfl rfl fun hw cx hx hq => ?_
  have hne : b = true → ((l.length : Int) = 0) = False := fun e => by
    rcases hb with hb | hb
    · rw [hb] at e; cases e
    · apply eq_false; intro e2; apply hb; apply List.length_eq_zero_iff.1; omega
  rcases b with _ | _
  all_goals (try have hne' := hne rfl)
  all_goals
    simp only [go_sem, hL, ]
  all_goals (try simp only [go_sem, hne'])
  all_goals
    repeat (refine And.intro (by omega) ?_)
    refine call_ret (roomBehind (by omega)) (by simp only [go_sem]) ?_
    simp only [go_sem, hcast, rowL_rep, hzr]
    repeat (refine And.intro (by omega) ?_)
    refine WK_for (fun n : Nat => ⟨[v, .any, .any, .any, .any, .s H.length 0 (l.length + room l.length) (.k (l.length + room l.length)), .v (.int .i64 n)] ++ junk 44, H ++ [⟨(l.take n ++ List.replicate (l.length + room l.length - n) (fun _ => 0)).flatMap encK, 51, .fix⟩]⟩) (fun n => n ≤ l.length) (fun n => l.length - n) 0 (Weak.slots ?_) ?_ fun n hn => ?_
    · simp [go_sem]
    · simp
    rcases Int.lt_or_le (n : Int) l.length with hc | hc
    · have hj : n < l.length := by omega
      obtain ⟨i, off, c, bl, rfl, hat⟩ := h.row (by omega)
      have hfit := hat.fits encK 3 encK_len hj (by omega)
      have hlt := hat.lt
      have hset : wr ((l.take n ++ List.replicate (l.length + room l.length - n) (fun _ => 0)).flatMap encK) (n * 3) (encK l[n]) = (l.take (n + 1) ++ List.replicate (l.length + room l.length - (n + 1)) (fun _ => 0)).flatMap encK := by
        rw [flat_set encK 3 encK_len _ _ _ (by simp; omega)]
        obtain ⟨m, hm⟩ : ∃ m, l.length + room l.length - n = m + 1 := ⟨l.length + room l.length - (n + 1), by omega⟩
        have hm2 : l.length + room l.length - (n + 1) = m := by omega
        rw [hm, hm2, set_take hj]
      have hflen := Flat.flen flat_encK (l.take n ++ List.replicate (l.length + room l.length - n) (fun _ => 0))
      have hflen2 : (l.take n ++ List.replicate (l.length + room l.length - n) ((fun _ => 0) : Nat → Int)).length = l.length + room l.length := by simp; omega
      rw [hflen2] at hflen
      simp only [go_sem, hc, hat.get, hat.live, hlt, hat.elem encK 3 encK_len hj, encK_len]
      repeat (refine And.intro (by omega) ?_)
      refine call_ret (toKey) (by simp only [go_sem]) ?_
      simp only [go_sem]
      repeat (refine And.intro (by omega) ?_)
      repeat (first | simp only [go_sem, hflen, encK_len] | refine And.intro (by omega) ?_)
      refine EK_again (n + 1) ?_ (by omega) (by omega)
      rw [hset]
      exact Weak.slots (by simp [go_sem])
    · have hnl : n = l.length := by omega
      subst hnl
      have e0 : (l.take l.length ++ List.replicate (l.length + room l.length - l.length) ((fun _ => 0) : Nat → Int)) = (l ++ (List.replicate (l.length - l.length) fillK ++ List.replicate (l.length + room l.length - l.length) (fun _ => 0))) := by simp
      simp only [go_sem, hL, Int.not_lt.2 hc, e0]
      refine WK_for (fun m : Nat => ⟨[v, .any, .any, .any, .any, .s H.length 0 (l.length + room l.length) (.k (l.length + room l.length)), .any, .v (.int .i64 m)] ++ junk 43, H ++ [⟨(l ++ (List.replicate (m - l.length) fillK ++ List.replicate (l.length + room l.length - m) (fun _ => 0))).flatMap encK, 51, .fix⟩]⟩) (fun m => l.length ≤ m ∧ m ≤ l.length + room l.length) (fun m => l.length + room l.length - m) l.length (Weak.slots ?_) ?_ fun m hm => ?_
      · simp [go_sem]
      · simp
      rcases Int.lt_or_le (m : Int) ((l.length + room l.length : Nat) : Int) with hc2 | hc2
      · have hflen := Flat.flen flat_encK (l ++ (List.replicate (m - l.length) fillK ++ List.replicate (l.length + room l.length - m) (fun _ => 0)))
        have hflen2 : (l ++ (List.replicate (m - l.length) (fillK : Nat → Int) ++ List.replicate (l.length + room l.length - m) (fun _ => 0))).length = l.length + room l.length := by simp; omega
        have hset : wr ((l ++ (List.replicate (m - l.length) fillK ++ List.replicate (l.length + room l.length - m) (fun _ => 0))).flatMap encK) (m * 3) (encK fillK) = (l ++ (List.replicate (m + 1 - l.length) fillK ++ List.replicate (l.length + room l.length - (m + 1)) (fun _ => 0))).flatMap encK := by
          rw [flat_set encK 3 encK_len _ _ _ (by rw [hflen2]; omega)]
          congr 1
          have := set_rep (l := l) (f := fillK) (z := ((fun _ => 0) : Nat → Int)) (a := m - l.length) (m := l.length + room l.length - (m + 1))
          rw [show l.length + (m - l.length) = m by omega, show l.length + room l.length - (m + 1) + 1 = l.length + room l.length - m by omega, show m - l.length + 1 = m + 1 - l.length by omega] at this
          exact this
        rw [hflen2] at hflen
        simp only [go_sem, hc2, rowL_rep]
        refine call_ret fillerKey (by simp only [go_sem]) ?_
        repeat (first | simp only [go_sem, hflen, encK_len] | refine And.intro (by omega) ?_)
        refine EK_again (m + 1) ?_ (by omega) (by omega)
        rw [hset]
        exact Weak.slots (by simp [go_sem])
      · have hml : m = l.length + room l.length := by omega
        subst hml
        simp only [go_sem, Int.not_lt.2 hc2, hL]
        repeat (refine And.intro (by omega) ?_)
        refine ret_at hq _ (.inl rfl) (by simp) ?_
        simp [go_sem]
theorem toTrackNil {H : List Blk} {v : V} (h : Rd H v encK []) : Cal Tryd.prog 13 [v, .v (.bool true)] H fun u H' => u = .v (.slice none 0 0) ∧ H' = H := by
  have hL := h.lenV (P := Tryd.prog) slTy27
  refine cal_fn 49 mixed Tryd.func13 Tryd.ntmps13 Tryd.results13 rfl rfl rfl fun hw cx hx hq => ?_
  simp only [go_sem, hL, List.length_nil, Int.ofNat_eq_natCast, Int.natCast_zero]
  refine ret_same hq _ (.inl rfl) ?_
  simp only [go_sem]

theorem eqTrack {H : List Blk} {v v2 : V} {l : List (Nat → Int)} (h : Rd H v encK l) (h2 : Rd H v2 encK l) (hl : l.length ≤ 1000000000) : Cal Tryd.prog 23 [v, v2] H fun u H' => u = .v (.bool true) ∧ H' = H := by
  have hL := h.lenV (P := Tryd.prog) slTy31
  have hL2 := h2.lenV (P := Tryd.prog) slTy31
  refine cal_fn 25 mixed Tryd.func23 Tryd.ntmps23 Tryd.results23 rfl rfl rfl fun hw cx hx hq => ?_
  simp only [go_sem, hL, hL2]
  repeat (refine And.intro (by omega) ?_)
  refine WK_for (fun n : Nat => ⟨[v, v2, .any, .any, .v (.bool false), .v (.int .i64 n)] ++ junk 21, H⟩) (fun n => n ≤ l.length) (fun n => l.length - n) 0 (Weak.slots ?_) ?_ fun n hn => ?_
  · simp [go_sem]
  · simp
  rcases Int.lt_or_le (n : Int) l.length with hc | hc
  · have hj : n < l.length := by omega
    obtain ⟨i, off, c, bl, rfl, hat⟩ := h.row (by omega)
    obtain ⟨i2, off2, c2, bl2, rfl, hat2⟩ := h2.row (by omega)
    have hfit := hat.fits encK 3 encK_len hj (by omega)
    have hfit2 := hat2.fits encK 3 encK_len hj (by omega)
    simp only [go_sem, hc, hat.get, hat.live, hat.elem encK 3 encK_len hj, hat2.get, hat2.live, hat2.elem encK 3 encK_len hj, encK_len]
    repeat (first | (simp only [go_sem, Int.reduceLT, Int.reduceLE, Int.reduceEq, Int.reduceToNat, hat.get, hat.live, hat.elem encK 3 encK_len hj, hat2.get, hat2.live, hat2.elem encK 3 encK_len hj]) | ((with_reducible refine And.intro ?_ ?_); omega) | ((with_reducible refine isSK ?_); first | (refine call_ret (eqKeySelf) (by simp only [go_sem, Int.reduceLT, Int.reduceLE, Int.reduceEq, Int.reduceToNat, hat.get, hat.live, hat.elem encK 3 encK_len hj, hat2.get, hat2.live, hat2.elem encK 3 encK_len hj]) ?_)) | ((with_reducible refine isMC ?_); first | (refine mcall_ret (eqKeySelf) (by simp only [go_sem, Int.reduceLT, Int.reduceLE, Int.reduceEq, Int.reduceToNat, hat.get, hat.live, hat.elem encK 3 encK_len hj, hat2.get, hat2.live, hat2.elem encK 3 encK_len hj]) (by simp only [go_sem, Int.reduceLT, Int.reduceLE, Int.reduceEq, Int.reduceToNat, hat.get, hat.live, hat.elem encK 3 encK_len hj, hat2.get, hat2.live, hat2.elem encK 3 encK_len hj]) ?_)) | ((with_reducible refine isWKr (id := 6) ?_); refine WK_drawUp 6 [[],[],[0,1],[0,1,2],[],[],[4,5],[4,5,6],[0,1,2,3,4,5,6,7],[0,1,2,3,4,5,6,7,8]] 8 (by kernel_rfl) ?_; dsimp only [List.take, List.drop]) | ((with_reducible refine And.intro ?_ ?_); first | (with_reducible rfl) | assumption | (simp only [go_sem]; done)))
    refine EK_again (n + 1) (Weak.slots (by simp [go_sem])) (by omega) (by omega)
  · simp only [go_sem, hL, Int.not_lt.2 hc]
    refine ret_same hq _ (.inl rfl) ?_
    simp only [go_sem]

theorem intactTrack {H : List Blk} {i j : Nat} {b b2 : Blk} {l r : List (Nat → Int)} (h : At H i 0 ((l ++ r).flatMap encK) b) (h2 : At H j 0 ((l ++ r).flatMap encK) b2) (hr : r.length = room l.length) (hl : l.length ≤ 1000000) :
    Cal Tryd.prog 15 [.s i 0 l.length (.k (l.length + room l.length)), .s j 0 l.length (.k (l.length + room l.length))] H fun u H' => u = .v (.bool true) ∧ H' = H := by
  have hroom := room_le l.length
  have hcast : ((l.length : Int) + (room l.length : Int)) = ((l.length + room l.length : Nat) : Int) := by push_cast; rfl
  have hif : ∀ o : Nat, (if l.length + room l.length = 0 then o else o) = o := fun o => ite_self ..
  refine cal_fn 24 mixed Tryd.func15 Tryd.ntmps15 Tryd.results15 rfl rfl rfl fun hw cx hx hq => ?_
  simp only [go_sem]
  repeat (refine And.intro (by omega) ?_)
  refine call_ret (roomBehind (by omega)) (by simp only [go_sem]) ?_
  simp only [go_sem, hcast]
  repeat (refine And.intro (by omega) ?_)
  have hlen : l.length + room l.length = (l ++ r).length := by rw [List.length_append, hr]
  repeat (first | (simp only [go_sem, Int.reduceLT, Int.reduceLE, Int.reduceEq, Int.reduceToNat, hif, ite_self]) | ((with_reducible refine And.intro ?_ ?_); omega) | ((with_reducible refine isSK ?_); first | (refine call_ret (eqTrack (l := l ++ r) (Rd.of' h hlen) (Rd.of' h2 hlen) (by omega)) (by simp only [go_sem, Int.reduceLT, Int.reduceLE, Int.reduceEq, Int.reduceToNat, hif, ite_self]) ?_)) | ((with_reducible refine isMC ?_); first | (refine mcall_ret (eqTrack (l := l ++ r) (Rd.of' h hlen) (Rd.of' h2 hlen) (by omega)) (by simp only [go_sem, Int.reduceLT, Int.reduceLE, Int.reduceEq, Int.reduceToNat, hif, ite_self]) (by simp only [go_sem, Int.reduceLT, Int.reduceLE, Int.reduceEq, Int.reduceToNat, hif, ite_self]) ?_)) | ((with_reducible refine isWKr (id := 2) ?_); refine WK_drawUp 2 [[],[0],[],[2],[0,1,2,3],[0,1,2,3,4],[0,1,2,3,4,5],[0,1,2,3,4,5],[0,1,2,3,4,5,6,7],[0,1,2,3,4,5],[0,1,2,3,4,5],[0,1,2,3,4,5,9,10],[0,1,2,3,4,5,6,7,8,9,10,11],[0,1,2,3,4,5,6,7,8,9,10,11,12],[0,1,2,3,4,5,6,7,8,9,10,11,12,13]] 12 (by kernel_rfl) ?_; dsimp only [List.take, List.drop]) | ((with_reducible refine And.intro ?_ ?_); first | (with_reducible rfl) | assumption | (simp only [go_sem]; done)))
  refine ret_same hq _ (.inl rfl) ?_
  simp [go_sem]

end Go.Proofs.YtpjimhkblldhaaaDoor


