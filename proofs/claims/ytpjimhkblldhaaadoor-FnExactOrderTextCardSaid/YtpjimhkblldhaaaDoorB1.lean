/- Contracts of functions of the translated program, by the walk. -/
import Derived.Test.YtpjimhkblldhaaaDoorR1f
import Derived.Test.YtpjimhkblldhaaaDoorLD
set_option linter.unusedVariables false
set_option linter.unusedSimpArgs false
set_option maxRecDepth 8000
set_option maxHeartbeats 4000000
namespace Go.Proofs.YtpjimhkblldhaaaDoor
open Go Go.Sx

theorem roomBehind {H : List Blk} {n : Nat} (hn : n ≤ 1000000) : Cal Tryd.prog 28 [.v (.int .i64 n)] H fun u H' => u = .v (.int .i64 (room n)) ∧ H' = H := by
  refine cal_fn 9 mixed Tryd.func28 Tryd.ntmps28 Tryd.results28 rfl rfl rfl fun hw cx hx hq => ?_
  have e6 : ((n : Int).tmod 6 = 5) = (n % 6 = 5) := by apply propext; rw [Int.tmod_eq_emod_of_nonneg (by omega)]; omega
  have e3 : ((n : Int).tmod 3 = 0) = (n % 3 = 0) := by apply propext; rw [Int.tmod_eq_emod_of_nonneg (by omega)]; omega
  simp only [go_sem, e6, e3]
  repeat (refine And.intro (by omega) ?_)
  refine ⟨fun e => ?_, fun e => ?_⟩
  · refine ret_same hq _ (.inl rfl) ?_
    simp [go_sem, room, e]
  repeat (refine And.intro (by omega) ?_)
  refine ⟨fun e2 => ?_, fun e2 => ?_⟩
  · refine ret_same hq _ (.inl rfl) ?_
    simp [go_sem, room, e, e2]
  · refine ret_same hq _ (.inl rfl) ?_
    simp [go_sem, room, e, e2]

theorem toInt64S {H : List Blk} {v : V} {l : List (Int)} {b : Bool} (h : Rd H v i64C l) (hl : l.length ≤ 1000000) (hb : b = false ∨ l ≠ []) :
    Cal Tryd.prog 8 [v, .v (.bool b)] H fun u H' => u = .s H.length 0 l.length (.k (l.length + room l.length)) ∧ H' = H ++ [⟨(l ++ List.replicate (room l.length) (-7000000000000000101)).flatMap i64C, 2, .fix⟩] := by
  have hL := h.lenV (P := Tryd.prog) slTy22
  have hsol := h.solid
  have hroom := room_le l.length
  have hcast : ((l.length : Int) + (room l.length : Int)) = ((l.length + room l.length : Nat) : Int) := by push_cast; rfl
  have hzr : ∀ n, zerosL [.v (.int .i64 0)] n = (List.replicate n (0 : Int)).flatMap i64C := fun n => zeros_flat i64C 0 n
  refine cal_fn 47 mixed Tryd.func8 Tryd.ntmps8 Tryd.results8 rfl rfl rfl fun hw cx hx hq => ?_
  have hne : b = true → ((l.length : Int) = 0) = False := fun e => by
    rcases hb with hb | hb
    · rw [hb] at e; cases e
    · apply eq_false; intro e2; apply hb; apply List.length_eq_zero_iff.1; omega
  rcases b with _ | _
  all_goals (try have hne' := hne rfl)
  all_goals
    simp only [go_sem, hL, ]
  all_goals (try simp only [go_sem, hne'])
  all_goals
    repeat (refine And.intro (by omega) ?_)
    refine call_ret (roomBehind (by omega)) (by simp only [go_sem]) ?_
    simp only [go_sem, hcast, rowL_rep, hzr]
    repeat (refine And.intro (by omega) ?_)
    refine WK_for (fun n : Nat => ⟨[v, .any, .any, .any, .any, .s H.length 0 (l.length + room l.length) (.k (l.length + room l.length)), .v (.int .i64 n)] ++ junk 42, H ++ [⟨(l.take n ++ List.replicate (l.length + room l.length - n) 0).flatMap i64C, 2, .fix⟩]⟩) (fun n => n ≤ l.length) (fun n => l.length - n) 0 (Weak.slots ?_) ?_ fun n hn => ?_
    · simp [go_sem]
    · simp
    rcases Int.lt_or_le (n : Int) l.length with hc | hc
    · have hj : n < l.length := by omega
      obtain ⟨i, off, c, bl, rfl, hat⟩ := h.row (by omega)
      have hfit := hat.fits i64C 1 (fun _ => rfl) hj (by omega)
      have hlt := hat.lt
      have hset : wr ((l.take n ++ List.replicate (l.length + room l.length - n) 0).flatMap i64C) (n * 1) (i64C l[n]) = (l.take (n + 1) ++ List.replicate (l.length + room l.length - (n + 1)) 0).flatMap i64C := by
        rw [flat_set i64C 1 (fun _ => rfl) _ _ _ (by simp; omega)]
        obtain ⟨m, hm⟩ : ∃ m, l.length + room l.length - n = m + 1 := ⟨l.length + room l.length - (n + 1), by omega⟩
        have hm2 : l.length + room l.length - (n + 1) = m := by omega
        rw [hm, hm2, set_take hj]
      have hflen := Flat.flen flat_i64 (l.take n ++ List.replicate (l.length + room l.length - n) 0)
      have hflen2 : (l.take n ++ List.replicate (l.length + room l.length - n) (0 : Int)).length = l.length + room l.length := by simp; omega
      rw [hflen2] at hflen
      simp only [go_sem, hc, hat.get, hat.live, hlt, hat.i64 hj]
      repeat (refine And.intro (by omega) ?_)
      repeat (first | simp only [go_sem, hflen] | refine And.intro (by omega) ?_)
      refine EK_again (n + 1) ?_ (by omega) (by omega)
      simp only [Nat.mul_one, i64C] at hset; rw [hset]
      exact Weak.slots (by simp [go_sem])
    · have hnl : n = l.length := by omega
      subst hnl
      have e0 : (l.take l.length ++ List.replicate (l.length + room l.length - l.length) (0 : Int)) = (l ++ (List.replicate (l.length - l.length) (-7000000000000000101) ++ List.replicate (l.length + room l.length - l.length) 0)) := by simp
      simp only [go_sem, hL, Int.not_lt.2 hc, e0]
      refine WK_for (fun m : Nat => ⟨[v, .any, .any, .any, .any, .s H.length 0 (l.length + room l.length) (.k (l.length + room l.length)), .any, .v (.int .i64 m)] ++ junk 41, H ++ [⟨(l ++ (List.replicate (m - l.length) (-7000000000000000101) ++ List.replicate (l.length + room l.length - m) 0)).flatMap i64C, 2, .fix⟩]⟩) (fun m => l.length ≤ m ∧ m ≤ l.length + room l.length) (fun m => l.length + room l.length - m) l.length (Weak.slots ?_) ?_ fun m hm => ?_
      · simp [go_sem]
      · simp
      rcases Int.lt_or_le (m : Int) ((l.length + room l.length : Nat) : Int) with hc2 | hc2
      · have hflen := Flat.flen flat_i64 (l ++ (List.replicate (m - l.length) (-7000000000000000101) ++ List.replicate (l.length + room l.length - m) 0))
        have hflen2 : (l ++ (List.replicate (m - l.length) ((-7000000000000000101) : Int) ++ List.replicate (l.length + room l.length - m) 0)).length = l.length + room l.length := by simp; omega
        have hset : wr ((l ++ (List.replicate (m - l.length) (-7000000000000000101) ++ List.replicate (l.length + room l.length - m) 0)).flatMap i64C) (m * 1) (i64C (-7000000000000000101)) = (l ++ (List.replicate (m + 1 - l.length) (-7000000000000000101) ++ List.replicate (l.length + room l.length - (m + 1)) 0)).flatMap i64C := by
          rw [flat_set i64C 1 (fun _ => rfl) _ _ _ (by rw [hflen2]; omega)]
          congr 1
          have := set_rep (l := l) (f := (-7000000000000000101)) (z := (0 : Int)) (a := m - l.length) (m := l.length + room l.length - (m + 1))
          rw [show l.length + (m - l.length) = m by omega, show l.length + room l.length - (m + 1) + 1 = l.length + room l.length - m by omega, show m - l.length + 1 = m + 1 - l.length by omega] at this
          exact this
        rw [hflen2] at hflen
        simp only [go_sem, hc2, rowL_rep]
        repeat (first | simp only [go_sem, hflen] | refine And.intro (by omega) ?_)
        refine EK_again (m + 1) ?_ (by omega) (by omega)
        simp only [Nat.mul_one, i64C] at hset; rw [hset]
        exact Weak.slots (by simp [go_sem])
      · have hml : m = l.length + room l.length := by omega
        subst hml
        simp only [go_sem, Int.not_lt.2 hc2, hL]
        repeat (refine And.intro (by omega) ?_)
        refine ret_at hq _ (.inl rfl) (by simp) ?_
        simp [go_sem]
theorem toInt64SNil {H : List Blk} {v : V} (h : Rd H v i64C []) : Cal Tryd.prog 8 [v, .v (.bool true)] H fun u H' => u = .v (.slice none 0 0) ∧ H' = H := by
  have hL := h.lenV (P := Tryd.prog) slTy22
  refine cal_fn 47 mixed Tryd.func8 Tryd.ntmps8 Tryd.results8 rfl rfl rfl fun hw cx hx hq => ?_
  simp only [go_sem, hL, List.length_nil, Int.ofNat_eq_natCast, Int.natCast_zero]
  refine ret_same hq _ (.inl rfl) ?_
  simp only [go_sem]

theorem eqInt64S {H : List Blk} {v v2 : V} {l : List (Int)} (h : Rd H v i64C l) (h2 : Rd H v2 i64C l) (hl : l.length ≤ 1000000000) : Cal Tryd.prog 18 [v, v2] H fun u H' => u = .v (.bool true) ∧ H' = H := by
  have hL := h.lenV (P := Tryd.prog) slTy22
  have hL2 := h2.lenV (P := Tryd.prog) slTy22
  refine cal_fn 24 mixed Tryd.func18 Tryd.ntmps18 Tryd.results18 rfl rfl rfl fun hw cx hx hq => ?_
  simp only [go_sem, hL, hL2]
  repeat (refine And.intro (by omega) ?_)
  refine WK_for (fun n : Nat => ⟨[v, v2, .any, .any, .v (.bool false), .v (.int .i64 n)] ++ junk 20, H⟩) (fun n => n ≤ l.length) (fun n => l.length - n) 0 (Weak.slots ?_) ?_ fun n hn => ?_
  · simp [go_sem]
  · simp
  rcases Int.lt_or_le (n : Int) l.length with hc | hc
  · have hj : n < l.length := by omega
    obtain ⟨i, off, c, bl, rfl, hat⟩ := h.row (by omega)
    obtain ⟨i2, off2, c2, bl2, rfl, hat2⟩ := h2.row (by omega)
    have hfit := hat.fits i64C 1 (fun _ => rfl) hj (by omega)
    have hfit2 := hat2.fits i64C 1 (fun _ => rfl) hj (by omega)
    simp only [go_sem, hc, hat.get, hat.live, hat.i64 hj, hat2.get, hat2.live, hat2.i64 hj]
    repeat (first | (simp only [go_sem, Int.reduceLT, Int.reduceLE, Int.reduceEq, Int.reduceToNat, hat.get, hat.live, hat.i64 hj, hat2.get, hat2.live, hat2.i64 hj]) | ((with_reducible refine And.intro ?_ ?_); omega) | ((with_reducible refine isWKr (id := 6) ?_); refine WK_drawAt 6 [[],[],[0,1],[0,1,2],[],[],[4,5],[4,5,6],[0,1,2,3,4,5,6,7]] (by kernel_rfl) ?_) | ((with_reducible refine And.intro ?_ ?_); first | (with_reducible rfl) | assumption | (simp only [go_sem]; done)))
    refine EK_again (n + 1) (Weak.slots (by simp [go_sem])) (by omega) (by omega)
  · simp only [go_sem, hL, Int.not_lt.2 hc]
    refine ret_same hq _ (.inl rfl) ?_
    simp only [go_sem]

theorem intactInt64S {H : List Blk} {i j : Nat} {b b2 : Blk} {l r : List (Int)} (h : At H i 0 ((l ++ r).flatMap i64C) b) (h2 : At H j 0 ((l ++ r).flatMap i64C) b2) (hr : r.length = room l.length) (hl : l.length ≤ 1000000) :
    Cal Tryd.prog 10 [.s i 0 l.length (.k (l.length + room l.length)), .s j 0 l.length (.k (l.length + room l.length))] H fun u H' => u = .v (.bool true) ∧ H' = H := by
  have hroom := room_le l.length
  have hcast : ((l.length : Int) + (room l.length : Int)) = ((l.length + room l.length : Nat) : Int) := by push_cast; rfl
  have hif : ∀ o : Nat, (if l.length + room l.length = 0 then o else o) = o := fun o => ite_self ..
  refine cal_fn 24 mixed Tryd.func10 Tryd.ntmps10 Tryd.results10 rfl rfl rfl fun hw cx hx hq => ?_
  simp only [go_sem]
  repeat (refine And.intro (by omega) ?_)
  refine call_ret (roomBehind (by omega)) (by simp only [go_sem]) ?_
  simp only [go_sem, hcast]
  repeat (refine And.intro (by omega) ?_)
  have hlen : l.length + room l.length = (l ++ r).length := by rw [List.length_append, hr]
  repeat (first | (simp only [go_sem, Int.reduceLT, Int.reduceLE, Int.reduceEq, Int.reduceToNat, hif, ite_self]) | ((with_reducible refine And.intro ?_ ?_); omega) | ((with_reducible refine isSK ?_); first | (refine call_ret (eqInt64S (l := l ++ r) (Rd.of' h hlen) (Rd.of' h2 hlen) (by omega)) (by simp only [go_sem, Int.reduceLT, Int.reduceLE, Int.reduceEq, Int.reduceToNat, hif, ite_self]) ?_)) | ((with_reducible refine isMC ?_); first | (refine mcall_ret (eqInt64S (l := l ++ r) (Rd.of' h hlen) (Rd.of' h2 hlen) (by omega)) (by simp only [go_sem, Int.reduceLT, Int.reduceLE, Int.reduceEq, Int.reduceToNat, hif, ite_self]) (by simp only [go_sem, Int.reduceLT, Int.reduceLE, Int.reduceEq, Int.reduceToNat, hif, ite_self]) ?_)) | ((with_reducible refine isWKr (id := 2) ?_); refine WK_drawUp 2 [[],[0],[],[2],[0,1,2,3],[0,1,2,3,4],[0,1,2,3,4,5],[0,1,2,3,4,5],[0,1,2,3,4,5,6,7],[0,1,2,3,4,5],[0,1,2,3,4,5],[0,1,2,3,4,5,9,10],[0,1,2,3,4,5,6,7,8,9,10,11],[0,1,2,3,4,5,6,7,8,9,10,11,12],[0,1,2,3,4,5,6,7,8,9,10,11,12,13]] 12 (by kernel_rfl) ?_; dsimp only [List.take, List.drop]) | ((with_reducible refine And.intro ?_ ?_); first | (with_reducible rfl) | assumption | (simp only [go_sem]; done)))
  refine ret_same hq _ (.inl rfl) ?_
  simp [go_sem]

end Go.Proofs.YtpjimhkblldhaaaDoor


