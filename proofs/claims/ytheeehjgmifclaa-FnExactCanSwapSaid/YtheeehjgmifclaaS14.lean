/- Contracts of functions of the translated program, by the walk. -/
import Derived.Test.YtheeehjgmifclaaS6
import Derived.Test.YtheeehjgmifclaaS2
import Derived.Test.YtheeehjgmifclaaLD
set_option linter.unusedVariables false
set_option linter.unusedSimpArgs false
set_option maxRecDepth 8000
set_option maxHeartbeats 4000000
namespace Go.Proofs.Ytheeehjgmifclaa
open Go Go.Sx
theorem cloneScene {H : List Blk} {i off : Nat} {c : Cap} {b : Blk} {l : List (Nat → Int)} (h : At H i off (l.flatMap encL) b) (hf : off + (l.flatMap encL).length ≤ b.cells.length) (hl : l.length ≤ 1000000) :
    Cal Try.prog 67 [.s i off l.length c] H fun u H' => u = .s H.length 0 l.length (.u 0) ∧ H' = H ++ [⟨l.flatMap encL, 44, .own 27⟩] := by
  refine cal_fn 7 mixed Try.func67 Try.ntmps67 Try.results67 rfl rfl rfl fun hw cx hx hq => ?_
  have hfl := Flat.flen flat_encL l
  rw [hfl] at hf
  have hn : norefH H.length H := norefH_wf hw (Nat.le_refl _)
  have hij : (i = H.length) = False := eq_false (by have := h.lt; omega)
  simp only [go_sem, h.get, h.live, h.lt, h.all encL_len, hn, hij, hx]
  repeat (refine And.intro (by omega) ?_)
  refine ret_at hq _ (.inl rfl) (by simp) ?_
  simp only [go_sem]
def raC (l : List (Nat → Int)) (k : Int) : Int := if okS l = true then (if (decide (0 ≤ k) && decide (k ≤ (l.length : Int) - 1)) = true then (if k = 0 then 4 else 0) else 2) else 1
theorem checkRaise {H : List Blk} {v : V} {l : List (Nat → Int)} {k : Int} (h : Rd H v encL l) (hm : l.length ≤ 1000000) (hly : ∀ a ∈ l, LyW a) :
    Cal Try.prog 74 [v, .v (.int .i64 k)] H fun u H' => u = .v (.int .i64 (raC l k)) ∧ H' = H := by
  have hsol := h.solid
  refine cal_fn 15 mixed Try.func74 Try.ntmps74 Try.results74 rfl rfl rfl fun hw cx hx hq => ?_
  cases e1 : okS l
  · repeat (first | (simp only [go_sem, Int.reduceLT, Int.reduceLE, Int.reduceEq, Int.reduceToNat, hsol, e1]) | ((with_reducible refine And.intro ?_ ?_); omega) | ((with_reducible refine isSK ?_); first | (refine call_ret (validScene h (by omega) hly) (by simp only [go_sem, Int.reduceLT, Int.reduceLE, Int.reduceEq, Int.reduceToNat, hsol, e1]) ?_)) | ((with_reducible refine isMC ?_); first | (refine mcall_ret (validScene h (by omega) hly) (by simp only [go_sem, Int.reduceLT, Int.reduceLE, Int.reduceEq, Int.reduceToNat, hsol, e1]) (by simp only [go_sem, Int.reduceLT, Int.reduceLE, Int.reduceEq, Int.reduceToNat, hsol, e1]) ?_)) | ((with_reducible refine And.intro ?_ ?_); first | (with_reducible rfl) | assumption | (simp only [go_sem]; done)))
    refine ret_same hq _ (.inl rfl) ?_
    simp [go_sem, raC, e1]
  cases e2 : (decide (0 ≤ k) && decide (k ≤ (l.length : Int) - 1))
  · repeat (first | (simp only [go_sem, Int.reduceLT, Int.reduceLE, Int.reduceEq, Int.reduceToNat, hsol, e1, e2]) | ((with_reducible refine And.intro ?_ ?_); omega) | ((with_reducible refine isSK ?_); first | (refine call_ret (validScene h (by omega) hly) (by simp only [go_sem, Int.reduceLT, Int.reduceLE, Int.reduceEq, Int.reduceToNat, hsol, e1, e2]) ?_) | (refine call_ret (isIn h (by omega)) (by simp only [go_sem, Int.reduceLT, Int.reduceLE, Int.reduceEq, Int.reduceToNat, hsol, e1, e2]) ?_)) | ((with_reducible refine isMC ?_); first | (refine mcall_ret (validScene h (by omega) hly) (by simp only [go_sem, Int.reduceLT, Int.reduceLE, Int.reduceEq, Int.reduceToNat, hsol, e1, e2]) (by simp only [go_sem, Int.reduceLT, Int.reduceLE, Int.reduceEq, Int.reduceToNat, hsol, e1, e2]) ?_) | (refine mcall_ret (isIn h (by omega)) (by simp only [go_sem, Int.reduceLT, Int.reduceLE, Int.reduceEq, Int.reduceToNat, hsol, e1, e2]) (by simp only [go_sem, Int.reduceLT, Int.reduceLE, Int.reduceEq, Int.reduceToNat, hsol, e1, e2]) ?_)) | ((with_reducible refine And.intro ?_ ?_); first | (with_reducible rfl) | assumption | (simp only [go_sem]; done)))
    refine ret_same hq _ (.inl rfl) ?_
    simp [go_sem, raC, e1, e2]
  by_cases e3 : k = 0
  · have e4 := eq_true e3
    repeat (first | (simp only [go_sem, Int.reduceLT, Int.reduceLE, Int.reduceEq, Int.reduceToNat, hsol, e1, e2, e4]) | ((with_reducible refine And.intro ?_ ?_); omega) | ((with_reducible refine isSK ?_); first | (refine call_ret (validScene h (by omega) hly) (by simp only [go_sem, Int.reduceLT, Int.reduceLE, Int.reduceEq, Int.reduceToNat, hsol, e1, e2, e4]) ?_) | (refine call_ret (isIn h (by omega)) (by simp only [go_sem, Int.reduceLT, Int.reduceLE, Int.reduceEq, Int.reduceToNat, hsol, e1, e2, e4]) ?_)) | ((with_reducible refine isMC ?_); first | (refine mcall_ret (validScene h (by omega) hly) (by simp only [go_sem, Int.reduceLT, Int.reduceLE, Int.reduceEq, Int.reduceToNat, hsol, e1, e2, e4]) (by simp only [go_sem, Int.reduceLT, Int.reduceLE, Int.reduceEq, Int.reduceToNat, hsol, e1, e2, e4]) ?_) | (refine mcall_ret (isIn h (by omega)) (by simp only [go_sem, Int.reduceLT, Int.reduceLE, Int.reduceEq, Int.reduceToNat, hsol, e1, e2, e4]) (by simp only [go_sem, Int.reduceLT, Int.reduceLE, Int.reduceEq, Int.reduceToNat, hsol, e1, e2, e4]) ?_)) | ((with_reducible refine And.intro ?_ ?_); first | (with_reducible rfl) | assumption | (simp only [go_sem]; done)))
    refine ret_same hq _ (.inl rfl) ?_
    have hv : raC l k = 4 := by unfold raC; rw [if_pos e1, if_pos e2, if_pos e3]
    simp [go_sem, hv]
  · repeat (first | (simp only [go_sem, Int.reduceLT, Int.reduceLE, Int.reduceEq, Int.reduceToNat, hsol, e1, e2, e3]) | ((with_reducible refine And.intro ?_ ?_); omega) | ((with_reducible refine isSK ?_); first | (refine call_ret (validScene h (by omega) hly) (by simp only [go_sem, Int.reduceLT, Int.reduceLE, Int.reduceEq, Int.reduceToNat, hsol, e1, e2, e3]) ?_) | (refine call_ret (isIn h (by omega)) (by simp only [go_sem, Int.reduceLT, Int.reduceLE, Int.reduceEq, Int.reduceToNat, hsol, e1, e2, e3]) ?_)) | ((with_reducible refine isMC ?_); first | (refine mcall_ret (validScene h (by omega) hly) (by simp only [go_sem, Int.reduceLT, Int.reduceLE, Int.reduceEq, Int.reduceToNat, hsol, e1, e2, e3]) (by simp only [go_sem, Int.reduceLT, Int.reduceLE, Int.reduceEq, Int.reduceToNat, hsol, e1, e2, e3]) ?_) | (refine mcall_ret (isIn h (by omega)) (by simp only [go_sem, Int.reduceLT, Int.reduceLE, Int.reduceEq, Int.reduceToNat, hsol, e1, e2, e3]) (by simp only [go_sem, Int.reduceLT, Int.reduceLE, Int.reduceEq, Int.reduceToNat, hsol, e1, e2, e3]) ?_)) | ((with_reducible refine And.intro ?_ ?_); first | (with_reducible rfl) | assumption | (simp only [go_sem]; done)))
    refine ret_same hq _ (.inl rfl) ?_
    simp [go_sem, raC, e1, e2, e3]
theorem l05Pair {H : List Blk} {v : V} {l : List (Nat → Int)} {k : Int} (h : Rd H v encL l) (hm : l.length ≤ 1000000) (hly : ∀ a ∈ l, LyW a) :
    Cal Try.prog 72 [v, .v (.int .i64 k)] H fun u H' => u = .v (.int .i64 (raC l k)) ∧ H' = H := by
  have hsol := h.solid
  have hL := h.lenV (P := Try.prog) slTy25
  refine cal_fn 17 mixed Try.func72 Try.ntmps72 Try.results72 rfl rfl rfl fun hw cx hx hq => ?_
  cases e1 : okS l
  · repeat (first | (simp only [go_sem, Int.reduceLT, Int.reduceLE, Int.reduceEq, Int.reduceToNat, hsol, e1]) | ((with_reducible refine And.intro ?_ ?_); omega) | ((with_reducible refine isSK ?_); first | (refine call_ret (l05Ok h (by omega) hly) (by simp only [go_sem, Int.reduceLT, Int.reduceLE, Int.reduceEq, Int.reduceToNat, hsol, e1]) ?_)) | ((with_reducible refine isMC ?_); first | (refine mcall_ret (l05Ok h (by omega) hly) (by simp only [go_sem, Int.reduceLT, Int.reduceLE, Int.reduceEq, Int.reduceToNat, hsol, e1]) (by simp only [go_sem, Int.reduceLT, Int.reduceLE, Int.reduceEq, Int.reduceToNat, hsol, e1]) ?_)) | ((with_reducible refine And.intro ?_ ?_); first | (with_reducible rfl) | assumption | (simp only [go_sem]; done)))
    refine ret_same hq _ (.inl rfl) ?_
    simp [go_sem, raC, e1]
  cases e2 : (decide (0 ≤ k) && decide (k ≤ (l.length : Int) - 1))
  · repeat (first | (simp only [go_sem, Int.reduceLT, Int.reduceLE, Int.reduceEq, Int.reduceToNat, hsol, hL, e1, e2]) | ((with_reducible refine And.intro ?_ ?_); omega) | ((with_reducible refine isSK ?_); first | (refine call_ret (l05Ok h (by omega) hly) (by simp only [go_sem, Int.reduceLT, Int.reduceLE, Int.reduceEq, Int.reduceToNat, hsol, hL, e1, e2]) ?_) | (refine call_ret (l00In) (by simp only [go_sem, Int.reduceLT, Int.reduceLE, Int.reduceEq, Int.reduceToNat, hsol, hL, e1, e2]) ?_)) | ((with_reducible refine isMC ?_); first | (refine mcall_ret (l05Ok h (by omega) hly) (by simp only [go_sem, Int.reduceLT, Int.reduceLE, Int.reduceEq, Int.reduceToNat, hsol, hL, e1, e2]) (by simp only [go_sem, Int.reduceLT, Int.reduceLE, Int.reduceEq, Int.reduceToNat, hsol, hL, e1, e2]) ?_) | (refine mcall_ret (l00In) (by simp only [go_sem, Int.reduceLT, Int.reduceLE, Int.reduceEq, Int.reduceToNat, hsol, hL, e1, e2]) (by simp only [go_sem, Int.reduceLT, Int.reduceLE, Int.reduceEq, Int.reduceToNat, hsol, hL, e1, e2]) ?_)) | ((with_reducible refine And.intro ?_ ?_); first | (with_reducible rfl) | assumption | (simp only [go_sem]; done)))
    refine ret_same hq _ (.inl rfl) ?_
    simp [go_sem, raC, e1, e2]
  by_cases e3 : k = 0
  · have e4 := eq_true e3
    repeat (first | (simp only [go_sem, Int.reduceLT, Int.reduceLE, Int.reduceEq, Int.reduceToNat, hsol, hL, e1, e2, e4]) | ((with_reducible refine And.intro ?_ ?_); omega) | ((with_reducible refine isSK ?_); first | (refine call_ret (l05Ok h (by omega) hly) (by simp only [go_sem, Int.reduceLT, Int.reduceLE, Int.reduceEq, Int.reduceToNat, hsol, hL, e1, e2, e4]) ?_) | (refine call_ret (l00In) (by simp only [go_sem, Int.reduceLT, Int.reduceLE, Int.reduceEq, Int.reduceToNat, hsol, hL, e1, e2, e4]) ?_)) | ((with_reducible refine isMC ?_); first | (refine mcall_ret (l05Ok h (by omega) hly) (by simp only [go_sem, Int.reduceLT, Int.reduceLE, Int.reduceEq, Int.reduceToNat, hsol, hL, e1, e2, e4]) (by simp only [go_sem, Int.reduceLT, Int.reduceLE, Int.reduceEq, Int.reduceToNat, hsol, hL, e1, e2, e4]) ?_) | (refine mcall_ret (l00In) (by simp only [go_sem, Int.reduceLT, Int.reduceLE, Int.reduceEq, Int.reduceToNat, hsol, hL, e1, e2, e4]) (by simp only [go_sem, Int.reduceLT, Int.reduceLE, Int.reduceEq, Int.reduceToNat, hsol, hL, e1, e2, e4]) ?_)) | ((with_reducible refine And.intro ?_ ?_); first | (with_reducible rfl) | assumption | (simp only [go_sem]; done)))
    refine ret_same hq _ (.inl rfl) ?_
    have hv : raC l k = 4 := by unfold raC; rw [if_pos e1, if_pos e2, if_pos e3]
    simp [go_sem, hv]
  · repeat (first | (simp only [go_sem, Int.reduceLT, Int.reduceLE, Int.reduceEq, Int.reduceToNat, hsol, hL, e1, e2, e3]) | ((with_reducible refine And.intro ?_ ?_); omega) | ((with_reducible refine isSK ?_); first | (refine call_ret (l05Ok h (by omega) hly) (by simp only [go_sem, Int.reduceLT, Int.reduceLE, Int.reduceEq, Int.reduceToNat, hsol, hL, e1, e2, e3]) ?_) | (refine call_ret (l00In) (by simp only [go_sem, Int.reduceLT, Int.reduceLE, Int.reduceEq, Int.reduceToNat, hsol, hL, e1, e2, e3]) ?_)) | ((with_reducible refine isMC ?_); first | (refine mcall_ret (l05Ok h (by omega) hly) (by simp only [go_sem, Int.reduceLT, Int.reduceLE, Int.reduceEq, Int.reduceToNat, hsol, hL, e1, e2, e3]) (by simp only [go_sem, Int.reduceLT, Int.reduceLE, Int.reduceEq, Int.reduceToNat, hsol, hL, e1, e2, e3]) ?_) | (refine mcall_ret (l00In) (by simp only [go_sem, Int.reduceLT, Int.reduceLE, Int.reduceEq, Int.reduceToNat, hsol, hL, e1, e2, e3]) (by simp only [go_sem, Int.reduceLT, Int.reduceLE, Int.reduceEq, Int.reduceToNat, hsol, hL, e1, e2, e3]) ?_)) | ((with_reducible refine And.intro ?_ ?_); first | (with_reducible rfl) | assumption | (simp only [go_sem]; done)))
    refine ret_same hq _ (.inl rfl) ?_
    simp [go_sem, raC, e1, e2, e3]
theorem raC_ok {l : List (Nat → Int)} {k : Int} (h : raC l k = 0) : okS l = true ∧ ∃ q : Nat, k = (q : Int) + 1 ∧ q + 1 < l.length := by
  unfold raC at h
  split at h
  · rename_i e; split at h
    · rename_i e2; split at h
      · cases h
      · simp only [Bool.and_eq_true, decide_eq_true_eq] at e2
        exact ⟨e, (k - 1).toNat, by omega, by omega⟩
    · cases h
  · cases h
/-- Two layers, one behind the other, exchanged. -/
def swL (l : List (Nat → Int)) (q : Nat) : List (Nat → Int) := (l.set (q + 1) (ly l q)).set q (ly l (q + 1))
theorem swL_len (l : List (Nat → Int)) (q : Nat) : (swL l q).length = l.length := by simp [swL]
theorem swL_eq (l : List (Nat → Int)) (q : Nat) : (l.set q (ly l (q + 1))).set (q + 1) (ly l q) = swL l q := List.set_comm _ _ (by omega)
theorem swL_mem {l : List (Nat → Int)} {q : Nat} (hq : q + 1 < l.length) {p : (Nat → Int) → Prop} (h : ∀ a ∈ l, p a) : ∀ a ∈ swL l q, p a := by
  intro a ha
  unfold swL at ha
  have m0 := List.getElem_mem (show q < l.length by omega)
  have m1 := List.getElem_mem hq
  rcases List.mem_or_eq_of_mem_set ha with ha | rfl
  · rcases List.mem_or_eq_of_mem_set ha with ha | rfl
    · exact h _ ha
    · rw [ly_at (by omega)]; exact h _ m0
  · rw [ly_at hq]; exact h _ m1
theorem raised {H : List Blk} {v : V} {l : List (Nat → Int)} {q : Nat} (h : Rd H v encL l) (hm : l.length ≤ 1000000) (hq2 : q + 1 < l.length) :
    Cal Try.prog 75 [v, .v (.int .i64 ((q : Int) + 1))] H fun u H' => u = .s H.length 0 (swL l q).length (.u 0) ∧ H' = H ++ [⟨(swL l q).flatMap encL, 44, .own 27⟩] := by
  rw [swL_len]
  have hsol := h.solid
  obtain ⟨i, off, c, b, rfl, hat, hf⟩ := h.full (by omega)
  have hfl := Flat.flen flat_encL l
  refine cal_fn 23 mixed Try.func75 Try.ntmps75 Try.results75 rfl rfl rfl fun hw cx hx hq => ?_
  have t0 : ((q : Int) + 1 - 1).toNat = q := by omega
  have t1 : ((q : Int) + 1).toNat = q + 1 := by omega
  have a0 := hat.elem encL 27 encL_len (show q < l.length by omega)
  have a1 := hat.elem encL 27 encL_len hq2
  have f0 := hat.fits encL 27 encL_len (show q < l.length by omega) (by omega)
  have f1 := hat.fits encL 27 encL_len hq2 (by omega)
  rw [← ly_at (show q < l.length by omega)] at a0
  rw [← ly_at hq2] at a1
  have s1 : wr (l.flatMap encL) (q * 27) (encL (ly l (q + 1))) = (l.set q (ly l (q + 1))).flatMap encL := by rw [flat_set encL 27 encL_len _ _ _ (by omega)]
  have s2 : wr ((l.set q (ly l (q + 1))).flatMap encL) ((q + 1) * 27) (encL (ly l q)) = (swL l q).flatMap encL := by rw [flat_set encL 27 encL_len _ _ _ (by simp; omega), swL_eq]
  have hfl2 : ((l.set q (ly l (q + 1))).flatMap encL).length = l.length * 27 := by rw [Flat.flen flat_encL, List.length_set]
  repeat (first | (simp only [go_sem, Int.reduceLT, Int.reduceLE, Int.reduceEq, Int.reduceToNat, hat.get, hat.live, hat.lt, t0, t1, a0, a1, s1, s2, hfl, hfl2, encL_len]) | ((with_reducible refine And.intro ?_ ?_); omega) | ((with_reducible refine isSK ?_); first | (refine call_ret (cloneScene hat hf hm) (by simp only [go_sem, Int.reduceLT, Int.reduceLE, Int.reduceEq, Int.reduceToNat, hat.get, hat.live, hat.lt, t0, t1, a0, a1, s1, s2, hfl, hfl2, encL_len]) ?_)) | ((with_reducible refine isMC ?_); first | (refine mcall_ret (cloneScene hat hf hm) (by simp only [go_sem, Int.reduceLT, Int.reduceLE, Int.reduceEq, Int.reduceToNat, hat.get, hat.live, hat.lt, t0, t1, a0, a1, s1, s2, hfl, hfl2, encL_len]) (by simp only [go_sem, Int.reduceLT, Int.reduceLE, Int.reduceEq, Int.reduceToNat, hat.get, hat.live, hat.lt, t0, t1, a0, a1, s1, s2, hfl, hfl2, encL_len]) ?_)) | ((with_reducible refine isWKr (id := 2) ?_); refine WK_drawAt 2 [[],[],[1],[],[],[],[],[5,6],[5,6,7],[],[],[10],[9,10,11],[9,10,11,12],[0,1,2,5,6,7,8,9,10,11,12,13],[0,1,2,5,6,7,8,9,10,11,12,13,14],[0,1,2,3,4,5,6,7,8,9,10,11,12,13,14,15],[0,1,2,3,4,5,6,7,8,9,10,11,12,13,14,15,16]] (by kernel_rfl) ?_) | ((with_reducible refine And.intro ?_ ?_); first | (with_reducible rfl) | assumption | (simp only [go_sem]; done)))
  refine ret_at hq _ (.inl rfl) (by simp) ?_
  simp [go_sem]
theorem l05Raised {H : List Blk} {v : V} {l : List (Nat → Int)} {q : Nat} (h : Rd H v encL l) (hm : l.length ≤ 1000000) (hq2 : q + 1 < l.length) :
    Cal Try.prog 73 [v, .v (.int .i64 ((q : Int) + 1))] H fun u H' => u = .s H.length 0 (swL l q).length (.u 0) ∧ H' = H ++ [⟨(swL l q).flatMap encL, 44, .own 27⟩] := by
  rw [swL_len]
  have hsol := h.solid
  obtain ⟨i, off, c, b, rfl, hat, hf⟩ := h.full (by omega)
  have hfl := Flat.flen flat_encL l
  rw [hfl] at hf
  refine cal_fn 24 mixed Try.func73 Try.ntmps73 Try.results73 rfl rfl rfl fun hw cx hx hq => ?_
  have hn : norefH H.length H := norefH_wf hw (Nat.le_refl _)
  have hij : (i = H.length) = False := eq_false (by have := hat.lt; omega)
  have t0 : ((q : Int) + 1 - 1).toNat = q := by omega
  have t1 : ((q : Int) + 1).toNat = q + 1 := by omega
  have a0 := hat.elem encL 27 encL_len (show q < l.length by omega)
  have a1 := hat.elem encL 27 encL_len hq2
  have f0 := hat.fits encL 27 encL_len (show q < l.length by omega) (by omega)
  have f1 := hat.fits encL 27 encL_len hq2 (by omega)
  rw [← ly_at (show q < l.length by omega)] at a0
  rw [← ly_at hq2] at a1
  have s1 : wr (l.flatMap encL) ((q + 1) * 27) (encL (ly l q)) = (l.set (q + 1) (ly l q)).flatMap encL := by rw [flat_set encL 27 encL_len _ _ _ (by omega)]
  have s2 : wr ((l.set (q + 1) (ly l q)).flatMap encL) (q * 27) (encL (ly l (q + 1))) = (swL l q).flatMap encL := by rw [flat_set encL 27 encL_len _ _ _ (by simp; omega)]; rfl
  have hfl2 : ((l.set (q + 1) (ly l q)).flatMap encL).length = l.length * 27 := by rw [Flat.flen flat_encL, List.length_set]
  repeat (first | (simp only [go_sem, Int.reduceLT, Int.reduceLE, Int.reduceEq, Int.reduceToNat, hat.get, hat.live, hat.lt, hat.all encL_len, hn, hij, hx, t0, t1, a0, a1, s1, s2, hfl, hfl2, encL_len]) | ((with_reducible refine And.intro ?_ ?_); omega) | ((with_reducible refine And.intro ?_ ?_); first | (with_reducible rfl) | assumption | (simp only [go_sem]; done)))
  refine ret_at hq _ (.inl rfl) (by simp) ?_
  simp [go_sem]
end Go.Proofs.Ytheeehjgmifclaa

