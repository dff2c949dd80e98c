/- Contracts of functions of the translated program, by the walk. -/
import Derived.Test.YtheeehjgmifclaaB1
import Derived.Test.YtheeehjgmifclaaLD
set_option linter.unusedVariables false
set_option linter.unusedSimpArgs false
set_option maxRecDepth 8000
set_option maxHeartbeats 4000000
namespace Go.Proofs.Ytheeehjgmifclaa
open Go Go.Sx
theorem fillerCel {H : List Blk} : Cal Try.prog 110 [] H fun v H' => v = .a (rowL .u16 12 fillF ++ rowL .u16 12 fillF) ∧ H' = H := by
  refine cal_fn 4 mixed Try.func110 Try.ntmps110 Try.results110 rfl rfl rfl fun hw cx hx hq => ?_
  have hf : wr (rowL .u16 12 fun _ => 0) 0 [.v (.int .u16 60201)] = rowL .u16 12 fillF := rowL_wr .u16 12 _ (by omega) _
  repeat (first | (simp only [go_sem, Int.reduceLT, Int.reduceLE, Int.reduceEq, Int.reduceToNat, rowL_rep, cel0, hf]) | ((with_reducible refine And.intro ?_ ?_); omega) | ((with_reducible refine And.intro ?_ ?_); first | (with_reducible rfl) | assumption | (simp only [go_sem]; done)))
  refine ret_cut hq hw _ (.inl rfl) ?_
  simp [go_sem]
theorem fillL_enc : encL fillL = rowL .u16 12 fillF ++ (rowL .u16 12 fillF ++ [.v (.int .i8 (-101)), .v (.int .i8 (-101)), .v (.int .i8 (-101))]) := by
  unfold encL tailL
  congr 1
theorem zeroL27 : ([.v (.int .u16 0), .v (.int .u16 0), .v (.int .u16 0), .v (.int .u16 0), .v (.int .u16 0), .v (.int .u16 0), .v (.int .u16 0), .v (.int .u16 0), .v (.int .u16 0), .v (.int .u16 0), .v (.int .u16 0), .v (.int .u16 0), .v (.int .u16 0), .v (.int .u16 0), .v (.int .u16 0), .v (.int .u16 0), .v (.int .u16 0), .v (.int .u16 0), .v (.int .u16 0), .v (.int .u16 0), .v (.int .u16 0), .v (.int .u16 0), .v (.int .u16 0), .v (.int .u16 0), .v (.int .i8 0), .v (.int .i8 0), .v (.int .i8 0)] : List V) = rowL .u16 12 (fun _ => 0) ++ (rowL .u16 12 (fun _ => 0) ++ [.v (.int .i8 0), .v (.int .i8 0), .v (.int .i8 0)]) := rfl
theorem fillerLayer {H : List Blk} : Cal Try.prog 63 [] H fun v H' => v = .a (encL fillL) ∧ H' = H := by
  rw [fillL_enc]
  refine cal_fn 3 mixed Try.func63 Try.ntmps63 Try.results63 rfl rfl rfl fun hw cx hx hq => ?_
  repeat (first | (simp only [go_sem, Int.reduceLT, Int.reduceLE, Int.reduceEq, Int.reduceToNat, rowL_rep, cel0, zeroL27, wrL24, wrL25, wrL26, wrL0]) | ((with_reducible refine And.intro ?_ ?_); omega) | ((with_reducible refine isSK ?_); first | (refine call_ret (fillerCel) (by simp only [go_sem, Int.reduceLT, Int.reduceLE, Int.reduceEq, Int.reduceToNat, rowL_rep, cel0, zeroL27, wrL24, wrL25, wrL26, wrL0]) ?_)) | ((with_reducible refine isMC ?_); first | (refine mcall_ret (fillerCel) (by simp only [go_sem, Int.reduceLT, Int.reduceLE, Int.reduceEq, Int.reduceToNat, rowL_rep, cel0, zeroL27, wrL24, wrL25, wrL26, wrL0]) (by simp only [go_sem, Int.reduceLT, Int.reduceLE, Int.reduceEq, Int.reduceToNat, rowL_rep, cel0, zeroL27, wrL24, wrL25, wrL26, wrL0]) ?_)) | ((with_reducible refine And.intro ?_ ?_); first | (with_reducible rfl) | assumption | (simp only [go_sem]; done)))
  refine ret_cut hq hw _ (.inl rfl) ?_
  simp [go_sem]
theorem toLayer {H : List Blk} {a : Nat → Int} : Cal Try.prog 24 [.a (encL a)] H fun v H' => v = .a (encL a) ∧ H' = H := by
  unfold encL tailL
  refine cal_fn 17 mixed Try.func24 Try.ntmps24 Try.results24 rfl rfl rfl fun hw cx hx hq => ?_
  repeat (first | (simp only [go_sem, Int.reduceLT, Int.reduceLE, Int.reduceEq, Int.reduceToNat, rowL_rep, cel0, zeroL27, wrL24, wrL25, wrL26, wrL0, celL24, celL25, celL26, segL24]) | ((with_reducible refine And.intro ?_ ?_); omega) | ((with_reducible refine isSK ?_); first | (refine call_ret (toCel) (by simp only [go_sem, Int.reduceLT, Int.reduceLE, Int.reduceEq, Int.reduceToNat, rowL_rep, cel0, zeroL27, wrL24, wrL25, wrL26, wrL0, celL24, celL25, celL26, segL24]) ?_)) | ((with_reducible refine isMC ?_); first | (refine mcall_ret (toCel) (by simp only [go_sem, Int.reduceLT, Int.reduceLE, Int.reduceEq, Int.reduceToNat, rowL_rep, cel0, zeroL27, wrL24, wrL25, wrL26, wrL0, celL24, celL25, celL26, segL24]) (by simp only [go_sem, Int.reduceLT, Int.reduceLE, Int.reduceEq, Int.reduceToNat, rowL_rep, cel0, zeroL27, wrL24, wrL25, wrL26, wrL0, celL24, celL25, celL26, segL24]) ?_)) | ((with_reducible refine And.intro ?_ ?_); first | (with_reducible rfl) | assumption | (simp only [go_sem]; done)))
  refine ret_cut hq hw _ (.inl rfl) ?_
  simp [go_sem]
theorem eqLayerSelf {H : List Blk} {a : Nat → Int} : Cal Try.prog 68 [.a (encL a), .a (encL a)] H fun v H' => v = .v (.bool true) ∧ H' = H := by
  unfold encL tailL
  have hc : ∀ L, Cal Try.prog 30 [.a (rowL .u16 12 (a) ++ rowL .u16 12 (fun j => a (12 + j))), .a (rowL .u16 12 (a) ++ rowL .u16 12 (fun j => a (12 + j)))] (H ++ L) fun v H' => v = .v (.bool true) ∧ H' = H ++ L := fun L => by
    have := eqCel (H := H ++ L) (f := a) (g := fun j => a (12 + j)) (f' := a) (g' := fun j => a (12 + j))
    simpa [allEq_self] using this
  refine cal_fn 24 mixed Try.func68 Try.ntmps68 Try.results68 rfl rfl rfl fun hw cx hx hq => ?_
  repeat (first | (simp only [go_sem, Int.reduceLT, Int.reduceLE, Int.reduceEq, Int.reduceToNat, rowL_rep, cel0, wrL24, wrL25, wrL26, celL24, celL25, celL26, segL24]) | ((with_reducible refine And.intro ?_ ?_); omega) | ((with_reducible refine isSK ?_); first | (refine call_ret (hc _) (by simp only [go_sem, Int.reduceLT, Int.reduceLE, Int.reduceEq, Int.reduceToNat, rowL_rep, cel0, wrL24, wrL25, wrL26, celL24, celL25, celL26, segL24]) ?_)) | ((with_reducible refine isMC ?_); first | (refine mcall_ret (hc _) (by simp only [go_sem, Int.reduceLT, Int.reduceLE, Int.reduceEq, Int.reduceToNat, rowL_rep, cel0, wrL24, wrL25, wrL26, celL24, celL25, celL26, segL24]) (by simp only [go_sem, Int.reduceLT, Int.reduceLE, Int.reduceEq, Int.reduceToNat, rowL_rep, cel0, wrL24, wrL25, wrL26, celL24, celL25, celL26, segL24]) ?_)) | ((with_reducible refine And.intro ?_ ?_); first | (with_reducible rfl) | assumption | (simp only [go_sem]; done)))
  refine ret_cut hq hw _ (.inl rfl) ?_
  simp [go_sem]

theorem szScene {H : List Blk} {v : V} {l : List (Nat → Int)} {k : Int} (h : Rd H v encL l) (hl : l.length ≤ 9223372036854775807) (hk : k = 1000000 ∨ (0 ≤ k ∧ k ≤ 1000000)) : Cal Try.prog 15 [v, .v (.int .i64 k)] H fun u H' => u = .v (.int .i64 (if (l.length : Int) ≤ k then k - l.length else -1)) ∧ H' = H := by
  refine cal_fn 10 mixed Try.func15 Try.ntmps15 Try.results15 rfl rfl rfl fun hw cx hx hq => ?_
  have hL := h.lenV (P := Try.prog) slTy22
  simp only [go_sem, hL]
  repeat (refine And.intro (by omega) ?_)
  refine ⟨fun e => ?_, fun e => ?_⟩
  · refine ret_same hq _ (.inl rfl) ?_
    simp only [go_sem]
    rw [if_neg (by omega)]
  · refine ret_same hq _ (.inl rfl) ?_
    simp only [go_sem]
    rw [if_pos (by omega)]

theorem toScene {H : List Blk} {v : V} {l : List (Nat → Int)} {b : Bool} (h : Rd H v encL l) (hl : l.length ≤ 1000000) (hb : b = false ∨ l ≠ []) :
    Cal Try.prog 17 [v, .v (.bool b)] H fun u H' => u = .s H.length 0 l.length (.k (l.length + room l.length)) ∧ H' = H ++ [⟨(l ++ List.replicate (room l.length) fillL).flatMap encL, 44, .fix⟩] := by
  have hL := h.lenV (P := Try.prog) slTy22
  have hsol := h.solid
  have hroom := room_le l.length
  have hcast : ((l.length : Int) + (room l.length : Int)) = ((l.length + room l.length : Nat) : Int) := by push_cast; rfl
  have hzr : ∀ n, zerosL [.v (.int .u16 0), .v (.int .u16 0), .v (.int .u16 0), .v (.int .u16 0), .v (.int .u16 0), .v (.int .u16 0), .v (.int .u16 0), .v (.int .u16 0), .v (.int .u16 0), .v (.int .u16 0), .v (.int .u16 0), .v (.int .u16 0), .v (.int .u16 0), .v (.int .u16 0), .v (.int .u16 0), .v (.int .u16 0), .v (.int .u16 0), .v (.int .u16 0), .v (.int .u16 0), .v (.int .u16 0), .v (.int .u16 0), .v (.int .u16 0), .v (.int .u16 0), .v (.int .u16 0), .v (.int .i8 0), .v (.int .i8 0), .v (.int .i8 0)] n = (List.replicate n ((fun _ => 0) : Nat → Int)).flatMap encL := fun n => zeros_flat encL (fun _ => 0) n
  refine cal_fn 49 mixed Try.func17 Try.ntmps17 Try.results17 rfl rfl rfl fun hw cx hx hq => ?_
  have hne : b = true → ((l.length : Int) = 0) = False := fun e => by
    rcases hb with hb | hb
    · rw [hb] at e; cases e
    · apply eq_false; intro e2; apply hb; apply List.length_eq_zero_iff.1; omega
  rcases b with _ | _
  all_goals (try have hne' := hne rfl)
  all_goals
    simp only [go_sem, hL, ]
  all_goals (try simp only [go_sem, hne'])
  all_goals
    repeat (refine And.intro (by omega) ?_)
    refine call_ret (roomBehind (by omega)) (by simp only [go_sem]) ?_
    simp only [go_sem, hcast, rowL_rep, hzr]
    repeat (refine And.intro (by omega) ?_)
    refine WK_for (fun n : Nat => ⟨[v, .any, .any, .any, .any, .s H.length 0 (l.length + room l.length) (.k (l.length + room l.length)), .v (.int .i64 n)] ++ junk 44, H ++ [⟨(l.take n ++ List.replicate (l.length + room l.length - n) (fun _ => 0)).flatMap encL, 44, .fix⟩]⟩) (fun n => n ≤ l.length) (fun n => l.length - n) 0 (Weak.slots ?_) ?_ fun n hn => ?_
    · simp [go_sem]
    · simp
    rcases Int.lt_or_le (n : Int) l.length with hc | hc
    · have hj : n < l.length := by omega
      obtain ⟨i, off, c, bl, rfl, hat⟩ := h.row (by omega)
      have hfit := hat.fits encL 27 encL_len hj (by omega)
      have hlt := hat.lt
      have hset : wr ((l.take n ++ List.replicate (l.length + room l.length - n) (fun _ => 0)).flatMap encL) (n * 27) (encL l[n]) = (l.take (n + 1) ++ List.replicate (l.length + room l.length - (n + 1)) (fun _ => 0)).flatMap encL := by
        rw [flat_set encL 27 encL_len _ _ _ (by simp; omega)]
        obtain ⟨m, hm⟩ : ∃ m, l.length + room l.length - n = m + 1 := ⟨l.length + room l.length - (n + 1), by omega⟩
        have hm2 : l.length + room l.length - (n + 1) = m := by omega
        rw [hm, hm2, set_take hj]
      have hflen := Flat.flen flat_encL (l.take n ++ List.replicate (l.length + room l.length - n) (fun _ => 0))
      have hflen2 : (l.take n ++ List.replicate (l.length + room l.length - n) ((fun _ => 0) : Nat → Int)).length = l.length + room l.length := by simp; omega
      rw [hflen2] at hflen
      simp only [go_sem, hc, hat.get, hat.live, hlt, hat.elem encL 27 encL_len hj, encL_len]
      repeat (refine And.intro (by omega) ?_)
      refine call_ret (toLayer) (by simp only [go_sem]) ?_
      simp only [go_sem]
      repeat (refine And.intro (by omega) ?_)
      repeat (first | simp only [go_sem, hflen, encL_len] | refine And.intro (by omega) ?_)
      refine EK_again (n + 1) ?_ (by omega) (by omega)
      rw [hset]
      exact Weak.slots (by simp [go_sem])
    · have hnl : n = l.length := by omega
      subst hnl
      have e0 : (l.take l.length ++ List.replicate (l.length + room l.length - l.length) ((fun _ => 0) : Nat → Int)) = (l ++ (List.replicate (l.length - l.length) fillL ++ List.replicate (l.length + room l.length - l.length) (fun _ => 0))) := by simp
      simp only [go_sem, hL, Int.not_lt.2 hc, e0]
      refine WK_for (fun m : Nat => ⟨[v, .any, .any, .any, .any, .s H.length 0 (l.length + room l.length) (.k (l.length + room l.length)), .any, .v (.int .i64 m)] ++ junk 43, H ++ [⟨(l ++ (List.replicate (m - l.length) fillL ++ List.replicate (l.length + room l.length - m) (fun _ => 0))).flatMap encL, 44, .fix⟩]⟩) (fun m => l.length ≤ m ∧ m ≤ l.length + room l.length) (fun m => l.length + room l.length - m) l.length (Weak.slots ?_) ?_ fun m hm => ?_
      · simp [go_sem]
      · simp
      rcases Int.lt_or_le (m : Int) ((l.length + room l.length : Nat) : Int) with hc2 | hc2
      · have hflen := Flat.flen flat_encL (l ++ (List.replicate (m - l.length) fillL ++ List.replicate (l.length + room l.length - m) (fun _ => 0)))
        have hflen2 : (l ++ (List.replicate (m - l.length) (fillL : Nat → Int) ++ List.replicate (l.length + room l.length - m) (fun _ => 0))).length = l.length + room l.length := by simp; omega
        have hset : wr ((l ++ (List.replicate (m - l.length) fillL ++ List.replicate (l.length + room l.length - m) (fun _ => 0))).flatMap encL) (m * 27) (encL fillL) = (l ++ (List.replicate (m + 1 - l.length) fillL ++ List.replicate (l.length + room l.length - (m + 1)) (fun _ => 0))).flatMap encL := by
          rw [flat_set encL 27 encL_len _ _ _ (by rw [hflen2]; omega)]
          congr 1
          have := set_rep (l := l) (f := fillL) (z := ((fun _ => 0) : Nat → Int)) (a := m - l.length) (m := l.length + room l.length - (m + 1))
          rw [show l.length + (m - l.length) = m by omega, show l.length + room l.length - (m + 1) + 1 = l.length + room l.length - m by omega, show m - l.length + 1 = m + 1 - l.length by omega] at this
          exact this
        rw [hflen2] at hflen
        simp only [go_sem, hc2, rowL_rep]
        refine call_ret fillerLayer (by simp only [go_sem]) ?_
        repeat (first | simp only [go_sem, hflen, encL_len] | refine And.intro (by omega) ?_)
        refine EK_again (m + 1) ?_ (by omega) (by omega)
        rw [hset]
        exact Weak.slots (by simp [go_sem])
      · have hml : m = l.length + room l.length := by omega
        subst hml
        simp only [go_sem, Int.not_lt.2 hc2, hL]
        repeat (refine And.intro (by omega) ?_)
        refine ret_at hq _ (.inl rfl) (by simp) ?_
        simp [go_sem]
theorem toSceneNil {H : List Blk} {v : V} (h : Rd H v encL []) : Cal Try.prog 17 [v, .v (.bool true)] H fun u H' => u = .v (.slice none 0 0) ∧ H' = H := by
  have hL := h.lenV (P := Try.prog) slTy22
  refine cal_fn 49 mixed Try.func17 Try.ntmps17 Try.results17 rfl rfl rfl fun hw cx hx hq => ?_
  simp only [go_sem, hL, List.length_nil, Int.ofNat_eq_natCast, Int.natCast_zero]
  refine ret_same hq _ (.inl rfl) ?_
  simp only [go_sem]

theorem eqScene {H : List Blk} {v v2 : V} {l : List (Nat → Int)} (h : Rd H v encL l) (h2 : Rd H v2 encL l) (hl : l.length ≤ 1000000000) : Cal Try.prog 19 [v, v2] H fun u H' => u = .v (.bool true) ∧ H' = H := by
  have hL := h.lenV (P := Try.prog) slTy25
  have hL2 := h2.lenV (P := Try.prog) slTy25
  refine cal_fn 25 mixed Try.func19 Try.ntmps19 Try.results19 rfl rfl rfl fun hw cx hx hq => ?_
  simp only [go_sem, hL, hL2]
  repeat (refine And.intro (by omega) ?_)
  refine WK_for (fun n : Nat => ⟨[v, v2, .any, .any, .v (.bool false), .v (.int .i64 n)] ++ junk 21, H⟩) (fun n => n ≤ l.length) (fun n => l.length - n) 0 (Weak.slots ?_) ?_ fun n hn => ?_
  · simp [go_sem]
  · simp
  rcases Int.lt_or_le (n : Int) l.length with hc | hc
  · have hj : n < l.length := by omega
    obtain ⟨i, off, c, bl, rfl, hat⟩ := h.row (by omega)
    obtain ⟨i2, off2, c2, bl2, rfl, hat2⟩ := h2.row (by omega)
    have hfit := hat.fits encL 27 encL_len hj (by omega)
    have hfit2 := hat2.fits encL 27 encL_len hj (by omega)
    simp only [go_sem, hc, hat.get, hat.live, hat.elem encL 27 encL_len hj, hat2.get, hat2.live, hat2.elem encL 27 encL_len hj, encL_len]
    repeat (first | (simp only [go_sem, Int.reduceLT, Int.reduceLE, Int.reduceEq, Int.reduceToNat, hat.get, hat.live, hat.elem encL 27 encL_len hj, hat2.get, hat2.live, hat2.elem encL 27 encL_len hj]) | ((with_reducible refine And.intro ?_ ?_); omega) | ((with_reducible refine isSK ?_); first | (refine call_ret (eqLayerSelf) (by simp only [go_sem, Int.reduceLT, Int.reduceLE, Int.reduceEq, Int.reduceToNat, hat.get, hat.live, hat.elem encL 27 encL_len hj, hat2.get, hat2.live, hat2.elem encL 27 encL_len hj]) ?_)) | ((with_reducible refine isMC ?_); first | (refine mcall_ret (eqLayerSelf) (by simp only [go_sem, Int.reduceLT, Int.reduceLE, Int.reduceEq, Int.reduceToNat, hat.get, hat.live, hat.elem encL 27 encL_len hj, hat2.get, hat2.live, hat2.elem encL 27 encL_len hj]) (by simp only [go_sem, Int.reduceLT, Int.reduceLE, Int.reduceEq, Int.reduceToNat, hat.get, hat.live, hat.elem encL 27 encL_len hj, hat2.get, hat2.live, hat2.elem encL 27 encL_len hj]) ?_)) | ((with_reducible refine isWKr (id := 6) ?_); refine WK_drawUp 6 [[],[],[0,1],[0,1,2],[],[],[4,5],[4,5,6],[0,1,2,3,4,5,6,7],[0,1,2,3,4,5,6,7,8]] 8 (by kernel_rfl) ?_; dsimp only [List.take, List.drop]) | ((with_reducible refine And.intro ?_ ?_); first | (with_reducible rfl) | assumption | (simp only [go_sem]; done)))
    refine EK_again (n + 1) (Weak.slots (by simp [go_sem])) (by omega) (by omega)
  · simp only [go_sem, hL, Int.not_lt.2 hc]
    refine ret_same hq _ (.inl rfl) ?_
    simp only [go_sem]

theorem intactScene {H : List Blk} {i j : Nat} {b b2 : Blk} {l r : List (Nat → Int)} (h : At H i 0 ((l ++ r).flatMap encL) b) (h2 : At H j 0 ((l ++ r).flatMap encL) b2) (hr : r.length = room l.length) (hl : l.length ≤ 1000000) :
    Cal Try.prog 20 [.s i 0 l.length (.k (l.length + room l.length)), .s j 0 l.length (.k (l.length + room l.length))] H fun u H' => u = .v (.bool true) ∧ H' = H := by
  have hroom := room_le l.length
  have hcast : ((l.length : Int) + (room l.length : Int)) = ((l.length + room l.length : Nat) : Int) := by push_cast; rfl
  have hif : ∀ o : Nat, (if l.length + room l.length = 0 then o else o) = o := fun o => ite_self ..
  refine cal_fn 24 mixed Try.func20 Try.ntmps20 Try.results20 rfl rfl rfl fun hw cx hx hq => ?_
  simp only [go_sem]
  repeat (refine And.intro (by omega) ?_)
  refine call_ret (roomBehind (by omega)) (by simp only [go_sem]) ?_
  simp only [go_sem, hcast]
  repeat (refine And.intro (by omega) ?_)
  have hlen : l.length + room l.length = (l ++ r).length := by rw [List.length_append, hr]
  repeat (first | (simp only [go_sem, Int.reduceLT, Int.reduceLE, Int.reduceEq, Int.reduceToNat, hif, ite_self]) | ((with_reducible refine And.intro ?_ ?_); omega) | ((with_reducible refine isSK ?_); first | (refine call_ret (eqScene (l := l ++ r) (Rd.of' h hlen) (Rd.of' h2 hlen) (by omega)) (by simp only [go_sem, Int.reduceLT, Int.reduceLE, Int.reduceEq, Int.reduceToNat, hif, ite_self]) ?_)) | ((with_reducible refine isMC ?_); first | (refine mcall_ret (eqScene (l := l ++ r) (Rd.of' h hlen) (Rd.of' h2 hlen) (by omega)) (by simp only [go_sem, Int.reduceLT, Int.reduceLE, Int.reduceEq, Int.reduceToNat, hif, ite_self]) (by simp only [go_sem, Int.reduceLT, Int.reduceLE, Int.reduceEq, Int.reduceToNat, hif, ite_self]) ?_)) | ((with_reducible refine isWKr (id := 2) ?_); refine WK_drawUp 2 [[],[0],[],[2],[0,1,2,3],[0,1,2,3,4],[0,1,2,3,4,5],[0,1,2,3,4,5],[0,1,2,3,4,5,6,7],[0,1,2,3,4,5],[0,1,2,3,4,5],[0,1,2,3,4,5,9,10],[0,1,2,3,4,5,6,7,8,9,10,11],[0,1,2,3,4,5,6,7,8,9,10,11,12],[0,1,2,3,4,5,6,7,8,9,10,11,12,13]] 12 (by kernel_rfl) ?_; dsimp only [List.take, List.drop]) | ((with_reducible refine And.intro ?_ ?_); first | (with_reducible rfl) | assumption | (simp only [go_sem]; done)))
  refine ret_same hq _ (.inl rfl) ?_
  simp [go_sem]

end Go.Proofs.Ytheeehjgmifclaa


