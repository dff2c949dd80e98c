/- Contracts of functions of the translated program, by the walk. -/
import Derived.Test.YtaekjojblkhfdaaGreatFt2
import Derived.Test.YtaekjojblkhfdaaGreatE4
import Derived.Test.YtaekjojblkhfdaaGreatIn2
set_option linter.unusedVariables false
set_option linter.unusedSimpArgs false
set_option maxRecDepth 8000
set_option maxHeartbeats 16000000
namespace Go.Proofs.YtaekjojblkhfdaaGreat
open Go Go.Sx
/-- A row of numbers of the call's own. -/
def KU (H : List Blk) (v : V) (o : List Int) : Prop := ∃ bi, v = .s bi 0 o.length (.u 0) ∧ H[bi]? = some ⟨o.flatMap i64C, 2, .own 1⟩
theorem l04OrderU {H : List Blk} {v : V} {o : List Int} {n : Nat} (h : Rd H v i64C o) (hk : KU H v o) (hl : o.length ≤ 1000000) (hn : n ≤ 1000000) :
    Cal Tryz.prog 66 [v, .v (.int .i64 n)] H fun u H' => u = .v (.bool (isOrd o n)) ∧ H' = H := by
  have hsol := h.solid
  have hL := h.lenV (P := Tryz.prog) slTy27
  refine cal_fn 31 mixed Tryz.func66 Tryz.ntmps66 Tryz.results66 rfl rfl rfl fun hw cx hx hq => ?_
  by_cases e : o.length = n
  case neg =>
    have e1 : ((o.length : Int) = (n : Int)) = False := eq_false (by omega)
    have hr : isOrd o n = false := by rw [Bool.eq_false_iff]; intro h2; exact e (isOrd_iff.1 h2).1
    repeat (first | (simp only [go_sem, Int.reduceLT, Int.reduceLE, Int.reduceEq, Int.reduceToNat, hsol, hL, e1]) | ((with_reducible refine And.intro ?_ ?_); omega) | ((with_reducible refine isWKr (id := 6) ?_); refine WK_drawUp 6 [[],[],[0,1],[0,1,2],[],[4],[0,1,2,3,4,5],[0,1,2,3,4,5,6],[0,1,2,3,4,5,6,7],[0,1,2,3,4,5,6,7,8],[0,1,2,3,4,5,6,7,8],[0,1,2,3,4,5,6,7,8,9,10],[0,1,2,3,4,5,6,7,8],[0,1,2,3,4,5,6,7,8],[0,1,2,3,4,5,6,7,8,12,13],[0,1,2,3,4,5,6,7,8,12,13,14],[0,1,2,3,4,5,6,7,8,9,10,11,12,13,14,15],[0,1,2,3,4,5,6,7,8,9,10,11,12,13,14,15,16]] 16 (by kernel_rfl) ?_; dsimp only [List.take, List.drop]) | ((with_reducible refine And.intro ?_ ?_); first | (with_reducible rfl) | assumption | (simp only [go_sem]; done)))
    refine ret_same hq _ (.inl rfl) ?_
    simp [go_sem, hr]
  subst e
  have e1 : ((o.length : Int) = (o.length : Int)) = True := eq_true rfl
  repeat (first | (simp only [go_sem, Int.reduceLT, Int.reduceLE, Int.reduceEq, Int.reduceToNat, hsol, hL, e1]) | ((with_reducible refine And.intro ?_ ?_); omega) | ((with_reducible refine isWKr (id := 6) ?_); refine WK_drawUp 6 [[],[],[0,1],[0,1,2],[],[4],[0,1,2,3,4,5],[0,1,2,3,4,5,6],[0,1,2,3,4,5,6,7],[0,1,2,3,4,5,6,7,8],[0,1,2,3,4,5,6,7,8],[0,1,2,3,4,5,6,7,8,9,10],[0,1,2,3,4,5,6,7,8],[0,1,2,3,4,5,6,7,8],[0,1,2,3,4,5,6,7,8,12,13],[0,1,2,3,4,5,6,7,8,12,13,14],[0,1,2,3,4,5,6,7,8,9,10,11,12,13,14,15],[0,1,2,3,4,5,6,7,8,9,10,11,12,13,14,15,16]] 16 (by kernel_rfl) ?_; dsimp only [List.take, List.drop]) | ((with_reducible refine And.intro ?_ ?_); first | (with_reducible rfl) | assumption | (simp only [go_sem]; done)))
  refine WK_for (fun i : Nat => ⟨[v, .v (.int .i64 o.length), .any, .any, .any, .v (.int .i64 i)] ++ junk 27, H⟩) (fun i => i ≤ o.length ∧ (∀ k ∈ o.take i, 0 ≤ k ∧ k < (o.length : Int)) ∧ (o.take i).Nodup) (fun i => o.length - i) 0 (Weak.slots ?_) ?_ fun i hi => ?_
  · simp [go_sem]
  · simp
  rcases Int.lt_or_le (i : Int) o.length with hc | hc
  · have hj : i < o.length := by omega
    obtain ⟨bi, off, c, b, rfl, hat, hf⟩ := h.full (by omega)
    obtain ⟨bi2, hv2, hbk⟩ := hk
    cases hv2
    obtain rfl := Option.some.inj (hat.get.symm.trans hbk)
    have hco : coP 0 o.length (some ⟨o.flatMap i64C, 2, .own 1⟩) = True := eq_true ⟨by omega, by rw [flat_i64.flen]; omega⟩
    have hfo : (o.flatMap i64C).length = o.length := by rw [flat_i64.flen, Nat.mul_one]
    have hbl := hat.lt
    have hll := hat.len (by rw [flat_i64.flen]; omega)
    rw [flat_i64.flen] at hll
    have hz := hat.i64 hj
    rw [Nat.zero_add] at hz
    have hnt := nodup_take hj
    have hrd : Rd H (.s bi 0 i (.i 0)) i64C (o.take i) := rdTake (c := .i 0) (z := 1) (n := i) (l := o) (enc := i64C) (fun _ => rfl) hat hf (by omega)
    have htl : (o.take i).length ≤ 1000000 := by rw [List.length_take]; omega
    have hmt : ∀ k, k ∈ o.take (i + 1) ↔ k ∈ o.take i ∨ k = o[i] := fun k => by rw [List.take_succ_eq_append_getElem hj, List.mem_append, List.mem_singleton]
    generalize o[i] = x at hz hnt hmt
    have hbad : (¬ (0 ≤ x ∧ x < (o.length : Int)) ∨ x ∈ o.take i) → isOrd o o.length = false := fun hb => by
      rw [Bool.eq_false_iff]; intro h2
      have h3 := isOrd_iff.1 h2
      rcases hb with hb | hb
      · exact hb (h3.2.1 x (List.mem_of_mem_take ((hmt x).2 (.inr rfl))))
      · exact (hnt.1 (h3.2.2.sublist (List.take_sublist _ _))).2 hb
    by_cases h1 : (decide (0 ≤ x) && decide (x ≤ (o.length : Int) - 1)) = true
    · have hx1 : 0 ≤ x ∧ x < (o.length : Int) := by simp at h1; omega
      cases h2 : hasI (o.take i) x
      · have hx2 : x ∉ o.take i := fun hm => by rw [hasI_iff.2 hm] at h2; cases h2
        repeat (first | (simp only [go_sem, Int.reduceLT, Int.reduceLE, Int.reduceEq, Int.reduceToNat, hL, hc, hat.get, hat.live, hco, hfo, hz, h1, h2, ite_self, Nat.zero_mul, Nat.add_zero, Nat.sub_zero]) | ((with_reducible refine And.intro ?_ ?_); omega) | ((with_reducible refine isSK ?_); first | (refine call_ret (l00In) (by simp only [go_sem, Int.reduceLT, Int.reduceLE, Int.reduceEq, Int.reduceToNat, hL, hc, hat.get, hat.live, hco, hfo, hz, h1, h2, ite_self, Nat.zero_mul, Nat.add_zero, Nat.sub_zero]) ?_) | (refine call_ret (l00Has hrd htl) (by simp only [go_sem, Int.reduceLT, Int.reduceLE, Int.reduceEq, Int.reduceToNat, hL, hc, hat.get, hat.live, hco, hfo, hz, h1, h2, ite_self, Nat.zero_mul, Nat.add_zero, Nat.sub_zero]) ?_)) | ((with_reducible refine isMC ?_); first | (refine mcall_ret (l00In) (by simp only [go_sem, Int.reduceLT, Int.reduceLE, Int.reduceEq, Int.reduceToNat, hL, hc, hat.get, hat.live, hco, hfo, hz, h1, h2, ite_self, Nat.zero_mul, Nat.add_zero, Nat.sub_zero]) (by simp only [go_sem, Int.reduceLT, Int.reduceLE, Int.reduceEq, Int.reduceToNat, hL, hc, hat.get, hat.live, hco, hfo, hz, h1, h2, ite_self, Nat.zero_mul, Nat.add_zero, Nat.sub_zero]) ?_) | (refine mcall_ret (l00Has hrd htl) (by simp only [go_sem, Int.reduceLT, Int.reduceLE, Int.reduceEq, Int.reduceToNat, hL, hc, hat.get, hat.live, hco, hfo, hz, h1, h2, ite_self, Nat.zero_mul, Nat.add_zero, Nat.sub_zero]) (by simp only [go_sem, Int.reduceLT, Int.reduceLE, Int.reduceEq, Int.reduceToNat, hL, hc, hat.get, hat.live, hco, hfo, hz, h1, h2, ite_self, Nat.zero_mul, Nat.add_zero, Nat.sub_zero]) ?_)) | ((with_reducible refine isWKr (id := 6) ?_); refine WK_drawUp 6 [[],[],[0,1],[0,1,2],[],[4],[0,1,2,3,4,5],[0,1,2,3,4,5,6],[0,1,2,3,4,5,6,7],[0,1,2,3,4,5,6,7,8],[0,1,2,3,4,5,6,7,8],[0,1,2,3,4,5,6,7,8,9,10],[0,1,2,3,4,5,6,7,8],[0,1,2,3,4,5,6,7,8],[0,1,2,3,4,5,6,7,8,12,13],[0,1,2,3,4,5,6,7,8,12,13,14],[0,1,2,3,4,5,6,7,8,9,10,11,12,13,14,15],[0,1,2,3,4,5,6,7,8,9,10,11,12,13,14,15,16]] 16 (by kernel_rfl) ?_; dsimp only [List.take, List.drop]) | ((with_reducible refine And.intro ?_ ?_); first | (with_reducible rfl) | assumption | (simp only [go_sem]; done)))
        refine EK_again (i + 1) (Weak.slots (by simp [go_sem])) ⟨by omega, fun k hk2 => ?_, hnt.2 ⟨hi.2.2, hx2⟩⟩ (by omega)
        rcases (hmt k).1 hk2 with hk2 | rfl
        · exact hi.2.1 k hk2
        · exact hx1
      · have hr := hbad (.inr (hasI_iff.1 h2))
        repeat (first | (simp only [go_sem, Int.reduceLT, Int.reduceLE, Int.reduceEq, Int.reduceToNat, hL, hc, hat.get, hat.live, hco, hfo, hz, h1, h2, ite_self, Nat.zero_mul, Nat.add_zero, Nat.sub_zero]) | ((with_reducible refine And.intro ?_ ?_); omega) | ((with_reducible refine isSK ?_); first | (refine call_ret (l00In) (by simp only [go_sem, Int.reduceLT, Int.reduceLE, Int.reduceEq, Int.reduceToNat, hL, hc, hat.get, hat.live, hco, hfo, hz, h1, h2, ite_self, Nat.zero_mul, Nat.add_zero, Nat.sub_zero]) ?_) | (refine call_ret (l00Has hrd htl) (by simp only [go_sem, Int.reduceLT, Int.reduceLE, Int.reduceEq, Int.reduceToNat, hL, hc, hat.get, hat.live, hco, hfo, hz, h1, h2, ite_self, Nat.zero_mul, Nat.add_zero, Nat.sub_zero]) ?_)) | ((with_reducible refine isMC ?_); first | (refine mcall_ret (l00In) (by simp only [go_sem, Int.reduceLT, Int.reduceLE, Int.reduceEq, Int.reduceToNat, hL, hc, hat.get, hat.live, hco, hfo, hz, h1, h2, ite_self, Nat.zero_mul, Nat.add_zero, Nat.sub_zero]) (by simp only [go_sem, Int.reduceLT, Int.reduceLE, Int.reduceEq, Int.reduceToNat, hL, hc, hat.get, hat.live, hco, hfo, hz, h1, h2, ite_self, Nat.zero_mul, Nat.add_zero, Nat.sub_zero]) ?_) | (refine mcall_ret (l00Has hrd htl) (by simp only [go_sem, Int.reduceLT, Int.reduceLE, Int.reduceEq, Int.reduceToNat, hL, hc, hat.get, hat.live, hco, hfo, hz, h1, h2, ite_self, Nat.zero_mul, Nat.add_zero, Nat.sub_zero]) (by simp only [go_sem, Int.reduceLT, Int.reduceLE, Int.reduceEq, Int.reduceToNat, hL, hc, hat.get, hat.live, hco, hfo, hz, h1, h2, ite_self, Nat.zero_mul, Nat.add_zero, Nat.sub_zero]) ?_)) | ((with_reducible refine isWKr (id := 6) ?_); refine WK_drawUp 6 [[],[],[0,1],[0,1,2],[],[4],[0,1,2,3,4,5],[0,1,2,3,4,5,6],[0,1,2,3,4,5,6,7],[0,1,2,3,4,5,6,7,8],[0,1,2,3,4,5,6,7,8],[0,1,2,3,4,5,6,7,8,9,10],[0,1,2,3,4,5,6,7,8],[0,1,2,3,4,5,6,7,8],[0,1,2,3,4,5,6,7,8,12,13],[0,1,2,3,4,5,6,7,8,12,13,14],[0,1,2,3,4,5,6,7,8,9,10,11,12,13,14,15],[0,1,2,3,4,5,6,7,8,9,10,11,12,13,14,15,16]] 16 (by kernel_rfl) ?_; dsimp only [List.take, List.drop]) | ((with_reducible refine And.intro ?_ ?_); first | (with_reducible rfl) | assumption | (simp only [go_sem]; done)))
        refine ret_same hq _ (.inl rfl) ?_
        simp [go_sem, hr]
    · have hr := hbad (.inl fun hb => h1 (by simp; omega))
      rw [Bool.not_eq_true] at h1
      repeat (first | (simp only [go_sem, Int.reduceLT, Int.reduceLE, Int.reduceEq, Int.reduceToNat, hL, hc, hat.get, hat.live, hco, hfo, hz, h1, ite_self, Nat.zero_mul, Nat.add_zero, Nat.sub_zero]) | ((with_reducible refine And.intro ?_ ?_); omega) | ((with_reducible refine isSK ?_); first | (refine call_ret (l00In) (by simp only [go_sem, Int.reduceLT, Int.reduceLE, Int.reduceEq, Int.reduceToNat, hL, hc, hat.get, hat.live, hco, hfo, hz, h1, ite_self, Nat.zero_mul, Nat.add_zero, Nat.sub_zero]) ?_) | (refine call_ret (l00Has hrd htl) (by simp only [go_sem, Int.reduceLT, Int.reduceLE, Int.reduceEq, Int.reduceToNat, hL, hc, hat.get, hat.live, hco, hfo, hz, h1, ite_self, Nat.zero_mul, Nat.add_zero, Nat.sub_zero]) ?_)) | ((with_reducible refine isMC ?_); first | (refine mcall_ret (l00In) (by simp only [go_sem, Int.reduceLT, Int.reduceLE, Int.reduceEq, Int.reduceToNat, hL, hc, hat.get, hat.live, hco, hfo, hz, h1, ite_self, Nat.zero_mul, Nat.add_zero, Nat.sub_zero]) (by simp only [go_sem, Int.reduceLT, Int.reduceLE, Int.reduceEq, Int.reduceToNat, hL, hc, hat.get, hat.live, hco, hfo, hz, h1, ite_self, Nat.zero_mul, Nat.add_zero, Nat.sub_zero]) ?_) | (refine mcall_ret (l00Has hrd htl) (by simp only [go_sem, Int.reduceLT, Int.reduceLE, Int.reduceEq, Int.reduceToNat, hL, hc, hat.get, hat.live, hco, hfo, hz, h1, ite_self, Nat.zero_mul, Nat.add_zero, Nat.sub_zero]) (by simp only [go_sem, Int.reduceLT, Int.reduceLE, Int.reduceEq, Int.reduceToNat, hL, hc, hat.get, hat.live, hco, hfo, hz, h1, ite_self, Nat.zero_mul, Nat.add_zero, Nat.sub_zero]) ?_)) | ((with_reducible refine isWKr (id := 6) ?_); refine WK_drawUp 6 [[],[],[0,1],[0,1,2],[],[4],[0,1,2,3,4,5],[0,1,2,3,4,5,6],[0,1,2,3,4,5,6,7],[0,1,2,3,4,5,6,7,8],[0,1,2,3,4,5,6,7,8],[0,1,2,3,4,5,6,7,8,9,10],[0,1,2,3,4,5,6,7,8],[0,1,2,3,4,5,6,7,8],[0,1,2,3,4,5,6,7,8,12,13],[0,1,2,3,4,5,6,7,8,12,13,14],[0,1,2,3,4,5,6,7,8,9,10,11,12,13,14,15],[0,1,2,3,4,5,6,7,8,9,10,11,12,13,14,15,16]] 16 (by kernel_rfl) ?_; dsimp only [List.take, List.drop]) | ((with_reducible refine And.intro ?_ ?_); first | (with_reducible rfl) | assumption | (simp only [go_sem]; done)))
      refine ret_same hq _ (.inl rfl) ?_
      simp [go_sem, hr]
  · have e2 : i = o.length := by omega
    subst e2
    rw [List.take_length] at hi
    have hr : isOrd o o.length = true := isOrd_iff.2 ⟨rfl, hi.2⟩
    repeat (first | (simp only [go_sem, Int.reduceLT, Int.reduceLE, Int.reduceEq, Int.reduceToNat, hL, Int.not_lt.2 hc]) | ((with_reducible refine And.intro ?_ ?_); omega) | ((with_reducible refine isWKr (id := 6) ?_); refine WK_drawUp 6 [[],[],[0,1],[0,1,2],[],[4],[0,1,2,3,4,5],[0,1,2,3,4,5,6],[0,1,2,3,4,5,6,7],[0,1,2,3,4,5,6,7,8],[0,1,2,3,4,5,6,7,8],[0,1,2,3,4,5,6,7,8,9,10],[0,1,2,3,4,5,6,7,8],[0,1,2,3,4,5,6,7,8],[0,1,2,3,4,5,6,7,8,12,13],[0,1,2,3,4,5,6,7,8,12,13,14],[0,1,2,3,4,5,6,7,8,9,10,11,12,13,14,15],[0,1,2,3,4,5,6,7,8,9,10,11,12,13,14,15,16]] 16 (by kernel_rfl) ?_; dsimp only [List.take, List.drop]) | ((with_reducible refine And.intro ?_ ?_); first | (with_reducible rfl) | assumption | (simp only [go_sem]; done)))
    refine ret_same hq _ (.inl rfl) ?_
    simp [go_sem, hr]
theorem l04OrderedU {H : List Blk} {v w : V} {l : List (Nat → Int)} {o : List Int} (h : Rd H v (rowL .u16 12) l) (h2 : Rd H w i64C o) (hk : KU H w o) (hl : l.length ≤ 1000000) (hlo : o.length ≤ 1000000) :
    Cal Tryz.prog 34 [v, w] H fun u H' => u = .v (.int .i64 (orC l o)) ∧ H' = H := by
  have hsol := h.solid
  have hsol2 := h2.solid
  have hL := h.lenV (P := Tryz.prog) slTy25
  refine cal_fn 11 mixed Tryz.func34 Tryz.ntmps34 Tryz.results34 rfl rfl rfl fun hw cx hx hq => ?_
  by_cases e : okB l = true
  · cases e2 : isOrd o l.length
    · have hC : orC l o = 4 := by unfold orC; rw [if_pos e, if_neg (by rw [e2]; simp)]
      repeat (first | (simp only [go_sem, Int.reduceLT, Int.reduceLE, Int.reduceEq, Int.reduceToNat, hsol, hsol2, e, e2, hL]) | ((with_reducible refine And.intro ?_ ?_); omega) | ((with_reducible refine isSK ?_); first | (refine call_ret (l02Ok h (by omega)) (by simp only [go_sem, Int.reduceLT, Int.reduceLE, Int.reduceEq, Int.reduceToNat, hsol, hsol2, e, e2, hL]) ?_) | (refine call_ret (l04OrderU h2 hk hlo hl) (by simp only [go_sem, Int.reduceLT, Int.reduceLE, Int.reduceEq, Int.reduceToNat, hsol, hsol2, e, e2, hL]) ?_)) | ((with_reducible refine And.intro ?_ ?_); first | (with_reducible rfl) | assumption | (simp only [go_sem]; done)))
      refine ret_same hq _ (.inl rfl) ?_
      simp [go_sem, hC]
    · have hC : orC l o = 0 := by unfold orC; rw [if_pos e, if_pos e2]
      repeat (first | (simp only [go_sem, Int.reduceLT, Int.reduceLE, Int.reduceEq, Int.reduceToNat, hsol, hsol2, e, e2, hL]) | ((with_reducible refine And.intro ?_ ?_); omega) | ((with_reducible refine isSK ?_); first | (refine call_ret (l02Ok h (by omega)) (by simp only [go_sem, Int.reduceLT, Int.reduceLE, Int.reduceEq, Int.reduceToNat, hsol, hsol2, e, e2, hL]) ?_) | (refine call_ret (l04OrderU h2 hk hlo hl) (by simp only [go_sem, Int.reduceLT, Int.reduceLE, Int.reduceEq, Int.reduceToNat, hsol, hsol2, e, e2, hL]) ?_)) | ((with_reducible refine And.intro ?_ ?_); first | (with_reducible rfl) | assumption | (simp only [go_sem]; done)))
      refine ret_same hq _ (.inl rfl) ?_
      simp [go_sem, hC]
  · have hC : orC l o = 1 := by unfold orC; rw [if_neg e]
    rw [Bool.not_eq_true] at e
    repeat (first | (simp only [go_sem, Int.reduceLT, Int.reduceLE, Int.reduceEq, Int.reduceToNat, hsol, e]) | ((with_reducible refine And.intro ?_ ?_); omega) | ((with_reducible refine isSK ?_); first | (refine call_ret (l02Ok h (by omega)) (by simp only [go_sem, Int.reduceLT, Int.reduceLE, Int.reduceEq, Int.reduceToNat, hsol, e]) ?_)) | ((with_reducible refine And.intro ?_ ?_); first | (with_reducible rfl) | assumption | (simp only [go_sem]; done)))
    refine ret_same hq _ (.inl rfl) ?_
    simp [go_sem, hC]
theorem specReorderBook_okU {H : List Blk} {v w : V} {l : List (Nat → Int)} {o : List Int} (h : Rd H v (rowL .u16 12) l) (h2 : Rd H w i64C o) (hk : KU H w o) (hl : l.length ≤ 1000000) (hlo : o.length ≤ 1000000) (hc : orC l o = 0) :
    Cal Tryz.prog 11 [v, w] H fun u H' => u = .t [.s H.length 0 (inO l o).length (.u 0), .v (.int .i64 0)] ∧ H' = H ++ [⟨(inO l o).flatMap (rowL .u16 12), 63, .own 12⟩] := by
  have hsol := h.solid
  have hsol2 := h2.solid
  have hne : (orC l o = 0) = True := eq_true hc
  refine cal_fn 15 mixed Tryz.func11 Tryz.ntmps11 Tryz.results11 rfl rfl rfl fun hw cx hx hq => ?_
  repeat (first | (simp only [go_sem, Int.reduceLT, Int.reduceLE, Int.reduceEq, Int.reduceToNat, hsol, hsol2, hne]) | ((with_reducible refine And.intro ?_ ?_); omega) | ((with_reducible refine isSK ?_); first | (refine call_ret (l04OrderedU h h2 hk hl hlo) (by simp only [go_sem, Int.reduceLT, Int.reduceLE, Int.reduceEq, Int.reduceToNat, hsol, hsol2, hne]) ?_) | (refine call_ret (l04Pages (l := l) (o := o) h h2 (orC_okI hc) hlo) (by simp only [go_sem, Int.reduceLT, Int.reduceLE, Int.reduceEq, Int.reduceToNat, hsol, hsol2, hne]) ?_)) | ((with_reducible refine And.intro ?_ ?_); first | (with_reducible rfl) | assumption | (simp only [go_sem]; done)))
  refine ret_at hq _ (.inl rfl) (by simp) ?_
  simp [go_sem, hc]
theorem specTurnsFor_okU {H : List Blk} {v w : V} {l : List (Nat → Int)} {o : List Int} (h : Rd H v (rowL .u16 12) l) (h2 : Rd H w i64C o) (hk : KU H w o) (hl : l.length ≤ 1000000) (hlo : o.length ≤ 1000000) (hc : orC l o = 0) :
    Cal Tryz.prog 8 [v, w] H fun u H' => u = .t [.s H.length 0 (tfO o).length (.u 0), .v (.int .i64 0)] ∧ H' = H ++ [⟨(tfO o).flatMap (rowL .i64 2), 41, .own 2⟩] := by
  have hsol := h.solid
  have hsol2 := h2.solid
  have hL := h2.lenV (P := Tryz.prog) slTy27
  have hLb := h.lenV (P := Tryz.prog) slTy25
  have hOrd := (orC_ok hc).2
  have ho : OrdP o o.length := by rw [hOrd.1]; exact hOrd
  have hlen : o.length = l.length := hOrd.1
  have hvl : V.lt H.length v = True := h.vlt (Nat.le_refl _)
  have hwl : V.lt H.length w = True := h2.vlt (Nat.le_refl _)
  have hvl2 : V.lt (H.length + 2) v = True := h.vlt (by omega)
  have hwl2 : V.lt (H.length + 2) w = True := h2.vlt (by omega)
  have hvr : renW H.length [0, 3] v v = True := eq_true (renW_lt H.length _ v (by rw [hvl]; trivial) (solid_ne hsol))
  refine cal_fn 52 mixed Tryz.func8 Tryz.ntmps8 Tryz.results8 rfl rfl rfl fun hw cx hx hq => ?_
  repeat (first | (simp only [go_sem, Int.reduceLT, Int.reduceLE, Int.reduceEq, Int.reduceToNat, hsol, hsol2, hc, hL, hLb]) | ((with_reducible refine And.intro ?_ ?_); omega) | ((with_reducible refine isSK ?_); first | (refine call_ret (l04OrderedU h h2 hk hl hlo) (by simp only [go_sem, Int.reduceLT, Int.reduceLE, Int.reduceEq, Int.reduceToNat, hsol, hsol2, hc, hL, hLb]) ?_) | (refine call_ret (l04Plain (n := l.length) hl) (by simp only [go_sem, Int.reduceLT, Int.reduceLE, Int.reduceEq, Int.reduceToNat, hsol, hsol2, hc, hL, hLb]) ?_)) | ((with_reducible refine isMC ?_); first | (refine mcall_ret (l04OrderedU h h2 hk hl hlo) (by simp only [go_sem, Int.reduceLT, Int.reduceLE, Int.reduceEq, Int.reduceToNat, hsol, hsol2, hc, hL, hLb]) (by simp only [go_sem, Int.reduceLT, Int.reduceLE, Int.reduceEq, Int.reduceToNat, hsol, hsol2, hc, hL, hLb]) ?_) | (refine mcall_ret (l04Plain (n := l.length) hl) (by simp only [go_sem, Int.reduceLT, Int.reduceLE, Int.reduceEq, Int.reduceToNat, hsol, hsol2, hc, hL, hLb]) (by simp only [go_sem, Int.reduceLT, Int.reduceLE, Int.reduceEq, Int.reduceToNat, hsol, hsol2, hc, hL, hLb]) ?_)) | ((with_reducible refine isWKr (id := 10) ?_); refine WK_drawAt 10 [[],[],[0,1],[0,1,2],[],[],[4,5],[4,5,6],[0,1,2,3,4,5,6,7]] (by kernel_rfl) ?_) | ((with_reducible refine And.intro ?_ ?_); first | (with_reducible rfl) | assumption | (simp only [go_sem]; done)))
  refine WK_for (fun j : Nat => ⟨[v, w, .any, .any, .any, .any, .any, .s H.length 0 (tfN o j).2.length (.u 0), .s (H.length + 1) 0 o.length (.u 0), .v (.int .i64 j)] ++ junk 44, H ++ [⟨(tfN o j).2.flatMap (rowL .i64 2), 41, .own 2⟩, ⟨(tfN o j).1.flatMap i64C, 2, .own 1⟩]⟩) (fun j => j ≤ o.length) (fun j => o.length - j) 0 ?_ ?_ fun j hj => ?_
  · have e0 : (tfN o 0).1 = plainL l.length := by rw [← hlen]; rfl
    rw [e0]
    exact Weak.slots (by simp [go_sem, tfN, hlen])
  · simp
  have hinv := tf_inv ho j hj
  have hnl := hinv.1
  have hol := hinv.2.2.2
  rcases Int.lt_or_le (j : Int) o.length with hcj | hcj
  · have hjo : j < o.length := by omega
    obtain ⟨i2, off2, c2, b2, rfl, hat2, hfit2⟩ := h2.full (by omega)
    have hcel := hat2.i64 hjo
    have hfit := hat2.fits i64C 1 (fun _ => rfl) hjo (by omega)
    have hlt2 := hat2.lt
    have g2 : ∀ L : List Blk, (H ++ L)[i2]? = some b2 := fun L => get_app hat2.get
    obtain ⟨k, hjk, hko, hidx, hgk, hlow, hinv2, heq⟩ := tf_step ho hjo hinv
    have hnth := nth0_at hjo
    rw [hnth] at hidx hgk heq
    have hN : tfN o (j + 1) = if k = j then tfN o j else (turnL (tfN o j).1 j k, (tfN o j).2 ++ [pairF j k]) := by
      rw [← heq, ← hnth]; rfl
    have hfl : ((tfN o j).1.flatMap i64C).length = o.length := by rw [flat_i64.flen, Nat.mul_one, hnl]
    repeat (first | (simp only [go_sem, Int.reduceLT, Int.reduceLE, Int.reduceEq, Int.reduceToNat, hcj, hL, g2, hat2.live, hcel, hfit, hlt2]) | ((with_reducible refine And.intro ?_ ?_); omega) | ((with_reducible refine isWKr (id := 10) ?_); refine WK_drawAt 10 [[],[],[0,1],[0,1,2],[],[],[4,5],[4,5,6],[0,1,2,3,4,5,6,7]] (by kernel_rfl) ?_) | ((with_reducible refine And.intro ?_ ?_); first | (with_reducible rfl) | assumption | (simp only [go_sem]; done)))
    refine WK_for (fun q : Nat => ⟨[v, .s i2 off2 o.length c2, .any, .any, .any, .any, .any, .s H.length 0 (tfN o j).2.length (.u 0), .s (H.length + 1) 0 o.length (.u 0), .v (.int .i64 j), .v (.int .i64 q)] ++ junk 43, H ++ [⟨(tfN o j).2.flatMap (rowL .i64 2), 41, .own 2⟩, ⟨(tfN o j).1.flatMap i64C, 2, .own 1⟩]⟩) (fun q => j ≤ q ∧ q ≤ k) (fun q => k - q) j (Weak.slots ?_) ?_ fun q hqk => ?_
    · simp [go_sem]
    · exact ⟨Nat.le_refl _, hjk⟩
    have hqo : q < (tfN o j).1.length := by omega
    have hcq := (At.mk0 (H := []) (L := []) (cs := (tfN o j).1.flatMap i64C) (t := 0) (k := .own 1) rfl).i64 hqo
    simp only [Nat.zero_add] at hcq
    rcases Nat.lt_or_ge q k with hq2 | hq2
    · have hne : ((tfN o j).1[q] = o[j]) = False := eq_false fun e => hlow q hq2 (by rw [List.getElem?_eq_getElem hqo, e, hnth])
      repeat (first | (simp only [go_sem, Int.reduceLT, Int.reduceLE, Int.reduceEq, Int.reduceToNat, g2, hat2.live, hcel, hfit, hlt2, hcq, hfl, hne]) | ((with_reducible refine And.intro ?_ ?_); omega) | ((with_reducible refine isWKr (id := 10) ?_); refine WK_drawAt 10 [[],[],[0,1],[0,1,2],[],[],[4,5],[4,5,6],[0,1,2,3,4,5,6,7]] (by kernel_rfl) ?_) | ((with_reducible refine And.intro ?_ ?_); first | (with_reducible rfl) | assumption | (simp only [go_sem]; done)))
      refine EK_again (q + 1) (Weak.slots (by simp [go_sem])) (by omega) (by omega)
    · have hqe : q = k := by omega
      subst hqe
      have heq2 : ((tfN o j).1[q] = o[j]) = True := eq_true (by rw [List.getElem?_eq_getElem hqo] at hgk; exact Option.some.inj hgk)
      by_cases e : q = j
      · rw [if_pos e] at hN
        have e1 : ((j : Int) < (q : Int)) = False := eq_false (by omega)
        repeat (first | (simp only [go_sem, Int.reduceLT, Int.reduceLE, Int.reduceEq, Int.reduceToNat, g2, hat2.live, hcel, hfit, hlt2, hcq, hfl, heq2, e1]) | ((with_reducible refine And.intro ?_ ?_); omega) | ((with_reducible refine isWKr (id := 10) ?_); refine WK_drawAt 10 [[],[],[0,1],[0,1,2],[],[],[4,5],[4,5,6],[0,1,2,3,4,5,6,7]] (by kernel_rfl) ?_) | ((with_reducible refine And.intro ?_ ?_); first | (with_reducible rfl) | assumption | (simp only [go_sem]; done)))
        refine EK_again (j + 1) ?_ (by omega) (by omega)
        rw [hN]
        exact Weak.slots (by simp [go_sem])
      · rw [if_neg e] at hN
        have e1 : ((j : Int) < (q : Int)) = True := eq_true (by omega)
        have hn1 : norefH H.length H := norefH_wf hw (Nat.le_refl _)
        have hfv := h.forget (n := H.length) (Nat.le_refl _)
        have hd1 : (H.length + 1 = H.length) = False := eq_false (by omega)
        have hd3 : (i2 = H.length) = False := eq_false (by omega)
        have hn2 : norefs H.length ((tfN o j).1.flatMap i64C) = true := flat_i64.norefs _ _
        have hn3 : norefs H.length ((tfN o j).2.flatMap (rowL .i64 2)) = true := (flat_rowL .i64 2).norefs _ _
        have hfl2 : ((tfN o j).2.flatMap (rowL .i64 2)).length = (tfN o j).2.length * 2 := (flat_rowL .i64 2).flen _
        repeat (first | (simp only [go_sem, Int.reduceLT, Int.reduceLE, Int.reduceEq, Int.reduceToNat, g2, hat2.live, hcel, hfit, hlt2, hcq, hfl, heq2, e1, hn1, hfv, hd1, hd3, hn2, hn3, hfl2, hx]) | ((with_reducible refine And.intro ?_ ?_); omega) | ((with_reducible refine isSK ?_); first | (refine call_ret (l04T (l := (tfN o j).1) (by first | exact (Go.Sx.get_at0 _ _).trans rfl | exact (Go.Sx.get_at _ _ 1).trans rfl | exact (Go.Sx.get_at _ _ 2).trans rfl | exact (Go.Sx.get_at _ _ 3).trans rfl | exact (Go.Sx.get_at _ _ 4).trans rfl | exact (Go.Sx.get_at _ _ 5).trans rfl | exact (Go.Sx.get_at _ _ 6).trans rfl | exact (Go.Sx.get_at _ _ 7).trans rfl | exact (Go.Sx.get_at _ _ 8).trans rfl | exact (Go.Sx.get_at _ _ 9).trans rfl | exact (Go.Sx.get_at _ _ 10).trans rfl | exact (Go.Sx.get_at _ _ 11).trans rfl | exact (Go.Sx.get_at _ _ 12).trans rfl | exact (Go.Sx.get_at _ _ 13).trans rfl | exact (Go.Sx.get_at _ _ 14).trans rfl | exact (Go.Sx.get_at _ _ 15).trans rfl) hjk (by omega) (by omega) hnl.symm) (by simp only [go_sem, Int.reduceLT, Int.reduceLE, Int.reduceEq, Int.reduceToNat, g2, hat2.live, hcel, hfit, hlt2, hcq, hfl, heq2, e1, hn1, hfv, hd1, hd3, hn2, hn3, hfl2, hx]) ?_)) | ((with_reducible refine isMC ?_); first | (refine mcall_ret (l04T (l := (tfN o j).1) (by first | exact (Go.Sx.get_at0 _ _).trans rfl | exact (Go.Sx.get_at _ _ 1).trans rfl | exact (Go.Sx.get_at _ _ 2).trans rfl | exact (Go.Sx.get_at _ _ 3).trans rfl | exact (Go.Sx.get_at _ _ 4).trans rfl | exact (Go.Sx.get_at _ _ 5).trans rfl | exact (Go.Sx.get_at _ _ 6).trans rfl | exact (Go.Sx.get_at _ _ 7).trans rfl | exact (Go.Sx.get_at _ _ 8).trans rfl | exact (Go.Sx.get_at _ _ 9).trans rfl | exact (Go.Sx.get_at _ _ 10).trans rfl | exact (Go.Sx.get_at _ _ 11).trans rfl | exact (Go.Sx.get_at _ _ 12).trans rfl | exact (Go.Sx.get_at _ _ 13).trans rfl | exact (Go.Sx.get_at _ _ 14).trans rfl | exact (Go.Sx.get_at _ _ 15).trans rfl) hjk (by omega) (by omega) hnl.symm) (by simp only [go_sem, Int.reduceLT, Int.reduceLE, Int.reduceEq, Int.reduceToNat, g2, hat2.live, hcel, hfit, hlt2, hcq, hfl, heq2, e1, hn1, hfv, hd1, hd3, hn2, hn3, hfl2, hx]) (by simp only [go_sem, Int.reduceLT, Int.reduceLE, Int.reduceEq, Int.reduceToNat, g2, hat2.live, hcel, hfit, hlt2, hcq, hfl, heq2, e1, hn1, hfv, hd1, hd3, hn2, hn3, hfl2, hx]) ?_)) | ((with_reducible refine isWKr (id := 10) ?_); refine WK_drawAt 10 [[],[],[0,1],[0,1,2],[],[],[4,5],[4,5,6],[0,1,2,3,4,5,6,7]] (by kernel_rfl) ?_) | ((with_reducible refine And.intro ?_ ?_); first | (with_reducible rfl) | assumption | (simp only [go_sem]; done)))
        refine EK_again (j + 1) ?_ (by omega) (by omega)
        rw [hN, flat_snoc, ← pairF_row]
        exact Weak.pick [0,3] rfl (by decide) (by simp [hx]) (by simp [go_sem, flat_i64.lts, (flat_rowL .i64 2).lts]) hw (by simp [go_sem, hvr, hlt2] <;> omega)
  · have : j = o.length := by omega
    subst this
    repeat (first | (simp only [go_sem, Int.reduceLT, Int.reduceLE, Int.reduceEq, Int.reduceToNat, Int.not_lt.2 hcj, hL]) | ((with_reducible refine And.intro ?_ ?_); omega) | ((with_reducible refine isWKr (id := 10) ?_); refine WK_drawAt 10 [[],[],[0,1],[0,1,2],[],[],[4,5],[4,5,6],[0,1,2,3,4,5,6,7]] (by kernel_rfl) ?_) | ((with_reducible refine And.intro ?_ ?_); first | (with_reducible rfl) | assumption | (simp only [go_sem]; done)))
    refine ret_one hq hw _ (.inl rfl) 0 rfl (of_eq_true ((flat_rowL .i64 2).lts _ _)) (.t [.s H.length 0 (tfO o).length (.u 0), .v (.int .i64 0)]) (by simp [go_sem]) ?_
    simp [go_sem, conc, concs, upσ, Cap.val, tfO]
end Go.Proofs.YtaekjojblkhfdaaGreat
