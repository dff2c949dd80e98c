/- Contracts of functions of the translated program, by the walk. -/
import Derived.Test.YtaekjojblkhfdaaF2
import Derived.Test.YtaekjojblkhfdaaLD
set_option linter.unusedVariables false
set_option linter.unusedSimpArgs false
set_option maxRecDepth 8000
set_option maxHeartbeats 4000000
namespace Go.Proofs.Ytaekjojblkhfdaa
open Go Go.Sx
theorem rdTake {α : Type} {H : List Blk} {i off n : Nat} {c c' : Cap} {b : Blk} {enc : α → List V} {z : Nat} (hz : ∀ x, (enc x).length = z) {l : List α} (h : At H i off (l.flatMap enc) b) (hf : off + (l.flatMap enc).length ≤ b.cells.length) (hn : n ≤ l.length) : Rd H (.s i off n c') enc (l.take n) := by
  have e : l.flatMap enc = (l.take n).flatMap enc ++ (l.drop n).flatMap enc := by rw [← List.flatMap_append, List.take_append_drop]
  have hl : (l.take n).length = n := by rw [List.length_take]; omega
  refine .inr ⟨i, off, c', b, by rw [hl], ?_, ?_⟩
  · rw [e] at h; exact h.left
  · rw [e, List.length_append] at hf; omega
theorem l04Order {H : List Blk} {v : V} {o : List Int} {n : Nat} (h : Rd H v i64C o) (hk : KC v) (hl : o.length ≤ 1000000) (hn : n ≤ 1000000) :
    Cal Try.prog 18 [v, .v (.int .i64 n)] H fun u H' => u = .v (.bool (isOrd o n)) ∧ H' = H := by
  have hsol := h.solid
  have hL := h.lenV (P := Try.prog) slTy23
  refine cal_fn 31 mixed Try.func18 Try.ntmps18 Try.results18 rfl rfl rfl fun hw cx hx hq => ?_
  by_cases e : o.length = n
  case neg =>
    have e1 : ((o.length : Int) = (n : Int)) = False := eq_false (by omega)
    have hr : isOrd o n = false := by rw [Bool.eq_false_iff]; intro h2; exact e (isOrd_iff.1 h2).1
    repeat (first | (simp only [go_sem, Int.reduceLT, Int.reduceLE, Int.reduceEq, Int.reduceToNat, hsol, hL, e1]) | ((with_reducible refine And.intro ?_ ?_); omega) | ((with_reducible refine isWKr (id := 6) ?_); refine WK_drawUp 6 [[],[],[0,1],[0,1,2],[],[4],[0,1,2,3,4,5],[0,1,2,3,4,5,6],[0,1,2,3,4,5,6,7],[0,1,2,3,4,5,6,7,8],[0,1,2,3,4,5,6,7,8],[0,1,2,3,4,5,6,7,8,9,10],[0,1,2,3,4,5,6,7,8],[0,1,2,3,4,5,6,7,8],[0,1,2,3,4,5,6,7,8,12,13],[0,1,2,3,4,5,6,7,8,12,13,14],[0,1,2,3,4,5,6,7,8,9,10,11,12,13,14,15],[0,1,2,3,4,5,6,7,8,9,10,11,12,13,14,15,16]] 16 (by kernel_rfl) ?_; dsimp only [List.take, List.drop]) | ((with_reducible refine And.intro ?_ ?_); first | (with_reducible rfl) | assumption | (simp only [go_sem]; done)))
    refine ret_same hq _ (.inl rfl) ?_
    simp [go_sem, hr]
  subst e
  have e1 : ((o.length : Int) = (o.length : Int)) = True := eq_true rfl
  repeat (first | (simp only [go_sem, Int.reduceLT, Int.reduceLE, Int.reduceEq, Int.reduceToNat, hsol, hL, e1]) | ((with_reducible refine And.intro ?_ ?_); omega) | ((with_reducible refine isWKr (id := 6) ?_); refine WK_drawUp 6 [[],[],[0,1],[0,1,2],[],[4],[0,1,2,3,4,5],[0,1,2,3,4,5,6],[0,1,2,3,4,5,6,7],[0,1,2,3,4,5,6,7,8],[0,1,2,3,4,5,6,7,8],[0,1,2,3,4,5,6,7,8,9,10],[0,1,2,3,4,5,6,7,8],[0,1,2,3,4,5,6,7,8],[0,1,2,3,4,5,6,7,8,12,13],[0,1,2,3,4,5,6,7,8,12,13,14],[0,1,2,3,4,5,6,7,8,9,10,11,12,13,14,15],[0,1,2,3,4,5,6,7,8,9,10,11,12,13,14,15,16]] 16 (by kernel_rfl) ?_; dsimp only [List.take, List.drop]) | ((with_reducible refine And.intro ?_ ?_); first | (with_reducible rfl) | assumption | (simp only [go_sem]; done)))
  refine WK_for (fun i : Nat => ⟨[v, .v (.int .i64 o.length), .any, .any, .any, .v (.int .i64 i)] ++ junk 27, H⟩) (fun i => i ≤ o.length ∧ (∀ k ∈ o.take i, 0 ≤ k ∧ k < (o.length : Int)) ∧ (o.take i).Nodup) (fun i => o.length - i) 0 (Weak.slots ?_) ?_ fun i hi => ?_
  · simp [go_sem]
  · simp
  rcases Int.lt_or_le (i : Int) o.length with hc | hc
  · have hj : i < o.length := by omega
    obtain ⟨bi, off, c, b, rfl, hat, hf⟩ := h.full (by omega)
    obtain ⟨kc, rfl, hkc⟩ := hk _ _ _ _ rfl
    have hll := hat.len (by rw [flat_i64.flen]; omega)
    rw [flat_i64.flen] at hll
    have hz := hat.i64 hj
    have hnt := nodup_take hj
    have hrd : Rd H (.s bi off i (.k kc)) i64C (o.take i) := rdTake (c := .k kc) (z := 1) (n := i) (l := o) (enc := i64C) (fun _ => rfl) hat hf (by omega)
    have htl : (o.take i).length ≤ 1000000 := by rw [List.length_take]; omega
    have hmt : ∀ k, k ∈ o.take (i + 1) ↔ k ∈ o.take i ∨ k = o[i] := fun k => by rw [List.take_succ_eq_append_getElem hj, List.mem_append, List.mem_singleton]
    generalize o[i] = x at hz hnt hmt
    have hbad : (¬ (0 ≤ x ∧ x < (o.length : Int)) ∨ x ∈ o.take i) → isOrd o o.length = false := fun hb => by
      rw [Bool.eq_false_iff]; intro h2
      have h3 := isOrd_iff.1 h2
      rcases hb with hb | hb
      · exact hb (h3.2.1 x (List.mem_of_mem_take ((hmt x).2 (.inr rfl))))
      · exact (hnt.1 (h3.2.2.sublist (List.take_sublist _ _))).2 hb
    by_cases h1 : (decide (0 ≤ x) && decide (x ≤ (o.length : Int) - 1)) = true
    · have hx1 : 0 ≤ x ∧ x < (o.length : Int) := by simp at h1; omega
      cases h2 : hasI (o.take i) x
      · have hx2 : x ∉ o.take i := fun hm => by rw [hasI_iff.2 hm] at h2; cases h2
        repeat (first | (simp only [go_sem, Int.reduceLT, Int.reduceLE, Int.reduceEq, Int.reduceToNat, hL, hc, hat.get, hat.live, hz, h1, h2, ite_self, Nat.zero_mul, Nat.add_zero, Nat.sub_zero]) | ((with_reducible refine And.intro ?_ ?_); omega) | ((with_reducible refine isSK ?_); first | (refine call_ret (l00In) (by simp only [go_sem, Int.reduceLT, Int.reduceLE, Int.reduceEq, Int.reduceToNat, hL, hc, hat.get, hat.live, hz, h1, h2, ite_self, Nat.zero_mul, Nat.add_zero, Nat.sub_zero]) ?_) | (refine call_ret (l00Has hrd htl) (by simp only [go_sem, Int.reduceLT, Int.reduceLE, Int.reduceEq, Int.reduceToNat, hL, hc, hat.get, hat.live, hz, h1, h2, ite_self, Nat.zero_mul, Nat.add_zero, Nat.sub_zero]) ?_)) | ((with_reducible refine isMC ?_); first | (refine mcall_ret (l00In) (by simp only [go_sem, Int.reduceLT, Int.reduceLE, Int.reduceEq, Int.reduceToNat, hL, hc, hat.get, hat.live, hz, h1, h2, ite_self, Nat.zero_mul, Nat.add_zero, Nat.sub_zero]) (by simp only [go_sem, Int.reduceLT, Int.reduceLE, Int.reduceEq, Int.reduceToNat, hL, hc, hat.get, hat.live, hz, h1, h2, ite_self, Nat.zero_mul, Nat.add_zero, Nat.sub_zero]) ?_) | (refine mcall_ret (l00Has hrd htl) (by simp only [go_sem, Int.reduceLT, Int.reduceLE, Int.reduceEq, Int.reduceToNat, hL, hc, hat.get, hat.live, hz, h1, h2, ite_self, Nat.zero_mul, Nat.add_zero, Nat.sub_zero]) (by simp only [go_sem, Int.reduceLT, Int.reduceLE, Int.reduceEq, Int.reduceToNat, hL, hc, hat.get, hat.live, hz, h1, h2, ite_self, Nat.zero_mul, Nat.add_zero, Nat.sub_zero]) ?_)) | ((with_reducible refine isWKr (id := 6) ?_); refine WK_drawUp 6 [[],[],[0,1],[0,1,2],[],[4],[0,1,2,3,4,5],[0,1,2,3,4,5,6],[0,1,2,3,4,5,6,7],[0,1,2,3,4,5,6,7,8],[0,1,2,3,4,5,6,7,8],[0,1,2,3,4,5,6,7,8,9,10],[0,1,2,3,4,5,6,7,8],[0,1,2,3,4,5,6,7,8],[0,1,2,3,4,5,6,7,8,12,13],[0,1,2,3,4,5,6,7,8,12,13,14],[0,1,2,3,4,5,6,7,8,9,10,11,12,13,14,15],[0,1,2,3,4,5,6,7,8,9,10,11,12,13,14,15,16]] 16 (by kernel_rfl) ?_; dsimp only [List.take, List.drop]) | ((with_reducible refine And.intro ?_ ?_); first | (with_reducible rfl) | assumption | (simp only [go_sem]; done)))
        refine EK_again (i + 1) (Weak.slots (by simp [go_sem])) ⟨by omega, fun k hk2 => ?_, hnt.2 ⟨hi.2.2, hx2⟩⟩ (by omega)
        rcases (hmt k).1 hk2 with hk2 | rfl
        · exact hi.2.1 k hk2
        · exact hx1
      · have hr := hbad (.inr (hasI_iff.1 h2))
        repeat (first | (simp only [go_sem, Int.reduceLT, Int.reduceLE, Int.reduceEq, Int.reduceToNat, hL, hc, hat.get, hat.live, hz, h1, h2, ite_self, Nat.zero_mul, Nat.add_zero, Nat.sub_zero]) | ((with_reducible refine And.intro ?_ ?_); omega) | ((with_reducible refine isSK ?_); first | (refine call_ret (l00In) (by simp only [go_sem, Int.reduceLT, Int.reduceLE, Int.reduceEq, Int.reduceToNat, hL, hc, hat.get, hat.live, hz, h1, h2, ite_self, Nat.zero_mul, Nat.add_zero, Nat.sub_zero]) ?_) | (refine call_ret (l00Has hrd htl) (by simp only [go_sem, Int.reduceLT, Int.reduceLE, Int.reduceEq, Int.reduceToNat, hL, hc, hat.get, hat.live, hz, h1, h2, ite_self, Nat.zero_mul, Nat.add_zero, Nat.sub_zero]) ?_)) | ((with_reducible refine isMC ?_); first | (refine mcall_ret (l00In) (by simp only [go_sem, Int.reduceLT, Int.reduceLE, Int.reduceEq, Int.reduceToNat, hL, hc, hat.get, hat.live, hz, h1, h2, ite_self, Nat.zero_mul, Nat.add_zero, Nat.sub_zero]) (by simp only [go_sem, Int.reduceLT, Int.reduceLE, Int.reduceEq, Int.reduceToNat, hL, hc, hat.get, hat.live, hz, h1, h2, ite_self, Nat.zero_mul, Nat.add_zero, Nat.sub_zero]) ?_) | (refine mcall_ret (l00Has hrd htl) (by simp only [go_sem, Int.reduceLT, Int.reduceLE, Int.reduceEq, Int.reduceToNat, hL, hc, hat.get, hat.live, hz, h1, h2, ite_self, Nat.zero_mul, Nat.add_zero, Nat.sub_zero]) (by simp only [go_sem, Int.reduceLT, Int.reduceLE, Int.reduceEq, Int.reduceToNat, hL, hc, hat.get, hat.live, hz, h1, h2, ite_self, Nat.zero_mul, Nat.add_zero, Nat.sub_zero]) ?_)) | ((with_reducible refine isWKr (id := 6) ?_); refine WK_drawUp 6 [[],[],[0,1],[0,1,2],[],[4],[0,1,2,3,4,5],[0,1,2,3,4,5,6],[0,1,2,3,4,5,6,7],[0,1,2,3,4,5,6,7,8],[0,1,2,3,4,5,6,7,8],[0,1,2,3,4,5,6,7,8,9,10],[0,1,2,3,4,5,6,7,8],[0,1,2,3,4,5,6,7,8],[0,1,2,3,4,5,6,7,8,12,13],[0,1,2,3,4,5,6,7,8,12,13,14],[0,1,2,3,4,5,6,7,8,9,10,11,12,13,14,15],[0,1,2,3,4,5,6,7,8,9,10,11,12,13,14,15,16]] 16 (by kernel_rfl) ?_; dsimp only [List.take, List.drop]) | ((with_reducible refine And.intro ?_ ?_); first | (with_reducible rfl) | assumption | (simp only [go_sem]; done)))
        refine ret_same hq _ (.inl rfl) ?_
        simp [go_sem, hr]
    · have hr := hbad (.inl fun hb => h1 (by simp; omega))
      rw [Bool.not_eq_true] at h1
      repeat (first | (simp only [go_sem, Int.reduceLT, Int.reduceLE, Int.reduceEq, Int.reduceToNat, hL, hc, hat.get, hat.live, hz, h1, ite_self, Nat.zero_mul, Nat.add_zero, Nat.sub_zero]) | ((with_reducible refine And.intro ?_ ?_); omega) | ((with_reducible refine isSK ?_); first | (refine call_ret (l00In) (by simp only [go_sem, Int.reduceLT, Int.reduceLE, Int.reduceEq, Int.reduceToNat, hL, hc, hat.get, hat.live, hz, h1, ite_self, Nat.zero_mul, Nat.add_zero, Nat.sub_zero]) ?_) | (refine call_ret (l00Has hrd htl) (by simp only [go_sem, Int.reduceLT, Int.reduceLE, Int.reduceEq, Int.reduceToNat, hL, hc, hat.get, hat.live, hz, h1, ite_self, Nat.zero_mul, Nat.add_zero, Nat.sub_zero]) ?_)) | ((with_reducible refine isMC ?_); first | (refine mcall_ret (l00In) (by simp only [go_sem, Int.reduceLT, Int.reduceLE, Int.reduceEq, Int.reduceToNat, hL, hc, hat.get, hat.live, hz, h1, ite_self, Nat.zero_mul, Nat.add_zero, Nat.sub_zero]) (by simp only [go_sem, Int.reduceLT, Int.reduceLE, Int.reduceEq, Int.reduceToNat, hL, hc, hat.get, hat.live, hz, h1, ite_self, Nat.zero_mul, Nat.add_zero, Nat.sub_zero]) ?_) | (refine mcall_ret (l00Has hrd htl) (by simp only [go_sem, Int.reduceLT, Int.reduceLE, Int.reduceEq, Int.reduceToNat, hL, hc, hat.get, hat.live, hz, h1, ite_self, Nat.zero_mul, Nat.add_zero, Nat.sub_zero]) (by simp only [go_sem, Int.reduceLT, Int.reduceLE, Int.reduceEq, Int.reduceToNat, hL, hc, hat.get, hat.live, hz, h1, ite_self, Nat.zero_mul, Nat.add_zero, Nat.sub_zero]) ?_)) | ((with_reducible refine isWKr (id := 6) ?_); refine WK_drawUp 6 [[],[],[0,1],[0,1,2],[],[4],[0,1,2,3,4,5],[0,1,2,3,4,5,6],[0,1,2,3,4,5,6,7],[0,1,2,3,4,5,6,7,8],[0,1,2,3,4,5,6,7,8],[0,1,2,3,4,5,6,7,8,9,10],[0,1,2,3,4,5,6,7,8],[0,1,2,3,4,5,6,7,8],[0,1,2,3,4,5,6,7,8,12,13],[0,1,2,3,4,5,6,7,8,12,13,14],[0,1,2,3,4,5,6,7,8,9,10,11,12,13,14,15],[0,1,2,3,4,5,6,7,8,9,10,11,12,13,14,15,16]] 16 (by kernel_rfl) ?_; dsimp only [List.take, List.drop]) | ((with_reducible refine And.intro ?_ ?_); first | (with_reducible rfl) | assumption | (simp only [go_sem]; done)))
      refine ret_same hq _ (.inl rfl) ?_
      simp [go_sem, hr]
  · have e2 : i = o.length := by omega
    subst e2
    rw [List.take_length] at hi
    have hr : isOrd o o.length = true := isOrd_iff.2 ⟨rfl, hi.2⟩
    repeat (first | (simp only [go_sem, Int.reduceLT, Int.reduceLE, Int.reduceEq, Int.reduceToNat, hL, Int.not_lt.2 hc]) | ((with_reducible refine And.intro ?_ ?_); omega) | ((with_reducible refine isWKr (id := 6) ?_); refine WK_drawUp 6 [[],[],[0,1],[0,1,2],[],[4],[0,1,2,3,4,5],[0,1,2,3,4,5,6],[0,1,2,3,4,5,6,7],[0,1,2,3,4,5,6,7,8],[0,1,2,3,4,5,6,7,8],[0,1,2,3,4,5,6,7,8,9,10],[0,1,2,3,4,5,6,7,8],[0,1,2,3,4,5,6,7,8],[0,1,2,3,4,5,6,7,8,12,13],[0,1,2,3,4,5,6,7,8,12,13,14],[0,1,2,3,4,5,6,7,8,9,10,11,12,13,14,15],[0,1,2,3,4,5,6,7,8,9,10,11,12,13,14,15,16]] 16 (by kernel_rfl) ?_; dsimp only [List.take, List.drop]) | ((with_reducible refine And.intro ?_ ?_); first | (with_reducible rfl) | assumption | (simp only [go_sem]; done)))
    refine ret_same hq _ (.inl rfl) ?_
    simp [go_sem, hr]
theorem isOrderOf {H : List Blk} {v : V} {o : List Int} {n : Nat} (h : Rd H v i64C o) (hl : o.length ≤ 1000000) (hn : n ≤ 1000000) :
    Cal Try.prog 22 [v, .v (.int .i64 n)] H fun u H' => u = .v (.bool (isOrd o n)) ∧ H' = H := by
  have hsol := h.solid
  have hL := h.lenV (P := Try.prog) slTy23
  have hvl : V.lt H.length v = True := h.vlt (Nat.le_refl _)
  have hcl : cellsL v = [v] := by
    rcases h with ⟨rfl, _⟩ | ⟨i, off, c, b, rfl, _⟩ <;> rfl
  by_cases hne : o = []
  · have hN : isOrd o n = decide (o.length = n) := isOrd_len (by rw [hne]; exact ⟨rfl, (fun k hk => by cases hk), List.nodup_nil⟩)
    have he := h; rw [hne] at he
    have hL0 := he.lenV (P := Try.prog) slTy23
    refine cal_fn 24 mixed Try.func22 Try.ntmps22 Try.results22 rfl rfl rfl fun hw cx hx hq => ?_
    repeat (first | (simp only [go_sem, Int.reduceLT, Int.reduceLE, Int.reduceEq, Int.reduceToNat, hsol, hL, hcl]) | ((with_reducible refine And.intro ?_ ?_); omega) | ((with_reducible refine isSK ?_); first | (refine call_ret (valuesC hsol) (by simp only [go_sem, Int.reduceLT, Int.reduceLE, Int.reduceEq, Int.reduceToNat, hsol, hL, hcl]) ?_) | (refine call_ret (sortedNil (he.app) (by first | exact (Go.Sx.get_at0 _ _).trans rfl | exact (Go.Sx.get_at _ _ 1).trans rfl | exact (Go.Sx.get_at _ _ 2).trans rfl | exact (Go.Sx.get_at _ _ 3).trans rfl | exact (Go.Sx.get_at _ _ 4).trans rfl | exact (Go.Sx.get_at _ _ 5).trans rfl | exact (Go.Sx.get_at _ _ 6).trans rfl | exact (Go.Sx.get_at _ _ 7).trans rfl | exact (Go.Sx.get_at _ _ 8).trans rfl | exact (Go.Sx.get_at _ _ 9).trans rfl | exact (Go.Sx.get_at _ _ 10).trans rfl | exact (Go.Sx.get_at _ _ 11).trans rfl)) (by simp only [go_sem, Int.reduceLT, Int.reduceLE, Int.reduceEq, Int.reduceToNat, hsol, hL, hcl]) ?_)) | ((with_reducible refine isMC ?_); first | (refine mcall_ret (valuesC hsol) (by simp only [go_sem, Int.reduceLT, Int.reduceLE, Int.reduceEq, Int.reduceToNat, hsol, hL, hcl]) (by simp only [go_sem, Int.reduceLT, Int.reduceLE, Int.reduceEq, Int.reduceToNat, hsol, hL, hcl]) ?_) | (refine mcall_ret (sortedNil (he.app) (by first | exact (Go.Sx.get_at0 _ _).trans rfl | exact (Go.Sx.get_at _ _ 1).trans rfl | exact (Go.Sx.get_at _ _ 2).trans rfl | exact (Go.Sx.get_at _ _ 3).trans rfl | exact (Go.Sx.get_at _ _ 4).trans rfl | exact (Go.Sx.get_at _ _ 5).trans rfl | exact (Go.Sx.get_at _ _ 6).trans rfl | exact (Go.Sx.get_at _ _ 7).trans rfl | exact (Go.Sx.get_at _ _ 8).trans rfl | exact (Go.Sx.get_at _ _ 9).trans rfl | exact (Go.Sx.get_at _ _ 10).trans rfl | exact (Go.Sx.get_at _ _ 11).trans rfl)) (by simp only [go_sem, Int.reduceLT, Int.reduceLE, Int.reduceEq, Int.reduceToNat, hsol, hL, hcl]) (by simp only [go_sem, Int.reduceLT, Int.reduceLE, Int.reduceEq, Int.reduceToNat, hsol, hL, hcl]) ?_)) | ((with_reducible refine And.intro ?_ ?_); first | (with_reducible rfl) | assumption | (simp only [go_sem]; done)))
    refine WK_for (fun i : Nat => ⟨[v, .v (.int .i64 n), .any, .any, .any, .any, .any, .any, .any, .any, .any, .v (.slice none 0 0), .v (.int .i64 (0 : Nat)), .v (.int .i64 i)] ++ junk 12, H ++ [⟨[v], 23, .fix⟩]⟩) (fun i => i = 0) (fun i => i) 0 (Weak.slots ?_) ?_ fun i hi => ?_
    · simp [go_sem]
    · simp
    have hc3 : ¬ ((i : Int) < ((0 : Nat) : Int)) := by omega
    repeat (first | (simp only [go_sem, Int.reduceLT, Int.reduceLE, Int.reduceEq, Int.reduceToNat, hL, hc3]) | ((with_reducible refine And.intro ?_ ?_); omega) | ((with_reducible refine And.intro ?_ ?_); first | (with_reducible rfl) | assumption | (simp only [go_sem]; done)))
    refine ret_cut hq hw _ (.inl rfl) ?_
    simp [go_sem, hN] <;> omega
  refine cal_fn 24 mixed Try.func22 Try.ntmps22 Try.results22 rfl rfl rfl fun hw cx hx hq => ?_
  repeat (first | (simp only [go_sem, Int.reduceLT, Int.reduceLE, Int.reduceEq, Int.reduceToNat, hsol, hL, hcl]) | ((with_reducible refine And.intro ?_ ?_); omega) | ((with_reducible refine isSK ?_); first | (refine call_ret (valuesC hsol) (by simp only [go_sem, Int.reduceLT, Int.reduceLE, Int.reduceEq, Int.reduceToNat, hsol, hL, hcl]) ?_) | (refine call_ret (sortedC (l := o) (h.app) hl (by first | exact (Go.Sx.get_at0 _ _).trans rfl | exact (Go.Sx.get_at _ _ 1).trans rfl | exact (Go.Sx.get_at _ _ 2).trans rfl | exact (Go.Sx.get_at _ _ 3).trans rfl | exact (Go.Sx.get_at _ _ 4).trans rfl | exact (Go.Sx.get_at _ _ 5).trans rfl | exact (Go.Sx.get_at _ _ 6).trans rfl | exact (Go.Sx.get_at _ _ 7).trans rfl | exact (Go.Sx.get_at _ _ 8).trans rfl | exact (Go.Sx.get_at _ _ 9).trans rfl | exact (Go.Sx.get_at _ _ 10).trans rfl | exact (Go.Sx.get_at _ _ 11).trans rfl) hne) (by simp only [go_sem, Int.reduceLT, Int.reduceLE, Int.reduceEq, Int.reduceToNat, hsol, hL, hcl]) ?_)) | ((with_reducible refine isMC ?_); first | (refine mcall_ret (valuesC hsol) (by simp only [go_sem, Int.reduceLT, Int.reduceLE, Int.reduceEq, Int.reduceToNat, hsol, hL, hcl]) (by simp only [go_sem, Int.reduceLT, Int.reduceLE, Int.reduceEq, Int.reduceToNat, hsol, hL, hcl]) ?_) | (refine mcall_ret (sortedC (l := o) (h.app) hl (by first | exact (Go.Sx.get_at0 _ _).trans rfl | exact (Go.Sx.get_at _ _ 1).trans rfl | exact (Go.Sx.get_at _ _ 2).trans rfl | exact (Go.Sx.get_at _ _ 3).trans rfl | exact (Go.Sx.get_at _ _ 4).trans rfl | exact (Go.Sx.get_at _ _ 5).trans rfl | exact (Go.Sx.get_at _ _ 6).trans rfl | exact (Go.Sx.get_at _ _ 7).trans rfl | exact (Go.Sx.get_at _ _ 8).trans rfl | exact (Go.Sx.get_at _ _ 9).trans rfl | exact (Go.Sx.get_at _ _ 10).trans rfl | exact (Go.Sx.get_at _ _ 11).trans rfl) hne) (by simp only [go_sem, Int.reduceLT, Int.reduceLE, Int.reduceEq, Int.reduceToNat, hsol, hL, hcl]) (by simp only [go_sem, Int.reduceLT, Int.reduceLE, Int.reduceEq, Int.reduceToNat, hsol, hL, hcl]) ?_)) | ((with_reducible refine And.intro ?_ ?_); first | (with_reducible rfl) | assumption | (simp only [go_sem]; done)))
  have hsl := sortL_len o
  refine WK_for (fun i : Nat => ⟨[v, .v (.int .i64 n), .any, .any, .any, .any, .any, .any, .any, .any, .any, .s (H.length + 1) 0 o.length (.u 0), .v (.int .i64 o.length), .v (.int .i64 i)] ++ junk 12, H ++ [⟨[v], 23, .fix⟩, ⟨(sortL o).flatMap i64C, 2, .own 1⟩]⟩) (fun i => i ≤ o.length ∧ ∀ j (hj : j < (sortL o).length), j < i → (sortL o)[j] = (j : Int)) (fun i => o.length - i) 0 (Weak.slots ?_) ?_ fun i hi => ?_
  · simp [go_sem]
  · simp
  rcases Int.lt_or_le (i : Int) o.length with hc | hc
  · have hj : i < (sortL o).length := by omega
    have hfl : ((sortL o).flatMap i64C).length = o.length := by rw [flat_i64.flen, Nat.mul_one, hsl]
    have hcel := (At.mk0 (H := []) (L := []) (cs := (sortL o).flatMap i64C) (t := 0) (k := .own 1) rfl).i64 hj
    simp only [Nat.zero_add] at hcel
    by_cases e : (sortL o)[i] = (i : Int)
    · have e1 : ((sortL o)[i] = (i : Int)) = True := eq_true e
      repeat (first | (simp only [go_sem, Int.reduceLT, Int.reduceLE, Int.reduceEq, Int.reduceToNat, hc, hcel, hfl, e1]) | ((with_reducible refine And.intro ?_ ?_); omega) | ((with_reducible refine And.intro ?_ ?_); first | (with_reducible rfl) | assumption | (simp only [go_sem]; done)))
      refine EK_again (i + 1) (Weak.slots (by simp [go_sem])) ⟨by omega, fun j hj2 hj3 => ?_⟩ (by omega)
      by_cases e3 : j = i
      · subst e3; exact e
      · exact hi.2 j hj2 (by omega)
    · have e1 : ((sortL o)[i] = (i : Int)) = False := eq_false e
      have hr : isOrd o n = false := isOrd_false fun h2 => e (sortL_ord h2 i hj)
      repeat (first | (simp only [go_sem, Int.reduceLT, Int.reduceLE, Int.reduceEq, Int.reduceToNat, hc, hcel, hfl, e1]) | ((with_reducible refine And.intro ?_ ?_); omega) | ((with_reducible refine And.intro ?_ ?_); first | (with_reducible rfl) | assumption | (simp only [go_sem]; done)))
      refine ret_cut hq hw _ (.inl rfl) ?_
      simp [go_sem, hr]
  · have hr : isOrd o n = decide (o.length = n) := isOrd_len (ord_of_sortL fun j hj => hi.2 j hj (by omega))
    repeat (first | (simp only [go_sem, Int.reduceLT, Int.reduceLE, Int.reduceEq, Int.reduceToNat, hL, Int.not_lt.2 hc]) | ((with_reducible refine And.intro ?_ ?_); omega) | ((with_reducible refine And.intro ?_ ?_); first | (with_reducible rfl) | assumption | (simp only [go_sem]; done)))
    refine ret_cut hq hw _ (.inl rfl) ?_
    simp [go_sem, hr] <;> omega
end Go.Proofs.Ytaekjojblkhfdaa

