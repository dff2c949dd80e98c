/- Contracts of functions of the translated program, by the walk. -/
import Derived.Test.YtjkkallcgplgmaaTb2
set_option linter.unusedVariables false
set_option linter.unusedSimpArgs false
set_option maxRecDepth 8000
set_option maxHeartbeats 4000000
namespace Go.Proofs.Ytjkkallcgplgmaa
open Go Go.Sx

/-- slices.IndexFunc. -/
theorem indexFuncN {H : List Blk} {v : V} {l : List (Int)} {p : (Int) → Bool} {fn : Nat} {cs : List V} (h : Rd H v i64C l) (hm : l.length ≤ 9223372036854775806)
    (hp : ∀ j (hj : j < l.length), ∀ L, Cal Try.prog fn (.v (.int .i64 l[j]) :: cs) (H ++ L) fun v H' => v = .v (.bool (p l[j])) ∧ H' = H ++ L) :
    Cal Try.prog 115 [v, .f fn cs] H fun u H' => u = .v (.int .i64 (idxL p l)) ∧ H' = H := by
  have hL := h.lenV (P := Try.prog) slTy80
  refine cal_fn 17 mixed Try.func115 Try.ntmps115 Try.results115 rfl rfl rfl fun hw cx hx hq => ?_
  simp only [go_sem, hL]
  refine WK_for (fun n : Nat => ⟨[v, .f fn cs, .any, .any, .any, .any, .any, .v (.int .i64 l.length), .v (.int .i64 n)] ++ junk 10, H⟩) (fun n => n ≤ l.length ∧ ∀ j (hj : j < l.length), j < n → p l[j] = false) (fun n => l.length - n) 0 (Weak.slots ?_) ?_ fun n hn => ?_
  · simp [go_sem]
  · simp
  rcases Int.lt_or_le (n : Int) l.length with hc | hc
  · have hj : n < l.length := by omega
    obtain ⟨i, off, c, bl, rfl, hat⟩ := h.row (by omega)
    have hfit := hat.fits i64C 1 (fun _ => rfl) hj (by omega)
    have hq' := hp n hj []
    rw [List.append_nil] at hq'
    simp only [go_sem, hc, hat.get, hat.live, hat.i64 hj]
    repeat (refine And.intro (by omega) ?_)
    refine call_ret hq' (by simp only [go_sem]) ?_
    simp only [go_sem]
    refine ⟨fun e => ?_, fun e => ?_⟩
    · refine ret_same hq _ (.inl rfl) ?_
      simp only [go_sem]
      rw [idxL_at hj e hn.2]
    · repeat (refine And.intro (by omega) ?_)
      refine EK_again (n + 1) (Weak.slots (by simp [go_sem])) ⟨by omega, fun j hj2 hj3 => ?_⟩ (by omega)
      by_cases e2 : j = n
      · subst e2; exact e
      · exact hn.2 j hj2 (by omega)
  · simp only [go_sem, Int.not_lt.2 hc]
    refine ret_same hq _ (.inl rfl) ?_
    simp only [go_sem]
    rw [idxL_none fun j hj => hn.2 j hj (by omega)]
/-- The list on its way: what is behind p is moved over it, up to i. -/
def dlF (L : List Int) (p i : Nat) : List Int := (L.eraseIdx p).take i ++ L.drop i
theorem dlF_len {L : List Int} {p i : Nat} (hp : p < L.length) (hi : i < L.length) : (dlF L p i).length = L.length := by
  unfold dlF
  rw [List.length_append, List.length_take, List.length_drop, List.length_eraseIdx_of_lt hp]; omega
theorem dlF_first {L : List Int} {p : Nat} (hp : p < L.length) : dlF L p p = L := by
  unfold dlF
  rw [List.eraseIdx_eq_take_drop_succ, List.take_append_of_le_length (by rw [List.length_take]; omega), List.take_take, Nat.min_self, List.take_append_drop]
theorem dlF_at {L : List Int} {p i : Nat} (hp : p < L.length) (hi : i + 1 < L.length) : (dlF L p i)[i + 1]? = some L[i + 1] := by
  unfold dlF
  have hl : ((L.eraseIdx p).take i).length = i := by rw [List.length_take, List.length_eraseIdx_of_lt hp]; omega
  rw [List.getElem?_append_right (by omega), hl, List.getElem?_drop, show i + (i + 1 - i) = i + 1 by omega, List.getElem?_eq_getElem hi]
theorem dlF_next {L : List Int} {p i : Nat} (hp : p ≤ i) (hi : i + 1 < L.length) : (dlF L p i).set i L[i + 1] = dlF L p (i + 1) := by
  unfold dlF
  have hle : (L.eraseIdx p).length = L.length - 1 := List.length_eraseIdx_of_lt (by omega)
  have hl : ((L.eraseIdx p).take i).length = i := by rw [List.length_take, hle]; omega
  rw [List.set_append_right _ _ (by omega), hl, Nat.sub_self, List.drop_eq_getElem_cons (show i < L.length by omega), List.set_cons_zero, List.take_succ_eq_append_getElem (show i < (L.eraseIdx p).length by omega), List.getElem_eraseIdx_of_ge (by omega) hp, List.append_assoc]
  rfl
theorem dlF_last {L : List Int} {p i : Nat} (hp : p < L.length) (hi : i + 1 = L.length) : dlF L p i = L.eraseIdx p ++ [L[i]] := by
  unfold dlF
  rw [List.take_of_length_le (by rw [List.length_eraseIdx_of_lt hp]; omega), List.drop_eq_getElem_cons (show i < L.length by omega), List.drop_of_length_le (by omega)]
theorem deleteFunc {H : List Blk} {bi : Nat} {L Z : List Int} {p : Nat} {m : Int} {fn : Nat} {cs : List V} (hb : H[bi]? = some ⟨(L ++ Z).flatMap i64C, 3, .own 1⟩) (hp : p < L.length) (hm : L[p] = m) (hd : L.Nodup) (hl : L.length ≤ 1000) (hcs : cs.all V.solid = true)
    (hf : ∀ (x : Int) (b : Blk) (X : List Blk), Cal Try.prog fn ([.v (.int .i64 x)] ++ cs) (H.set bi b ++ X) fun u H' => u = .v (.bool (decide (x = m))) ∧ H' = H.set bi b ++ X) :
    Cal Try.prog 78 [.s bi 0 L.length (.i 0), .f fn cs] H fun u H' => u = .s bi 0 (L.length - 1) (.i 0) ∧ H' = H.set bi ⟨(L.eraseIdx p ++ (0 :: Z)).flatMap i64C, 3, .own 1⟩ := by
  have hlt := (List.getElem?_eq_some_iff.1 hb).1
  have hset := set_get hb
  have hget : ∀ b : Blk, (H.set bi b)[bi]? = some b := fun b => List.getElem?_set_self hlt
  have hf0 : ∀ (x : Int) (X : List Blk), Cal Try.prog fn ([.v (.int .i64 x)] ++ cs) (H ++ X) fun u H' => u = .v (.bool (decide (x = m))) ∧ H' = H ++ X := fun x X => by
    have := hf x ⟨(L ++ Z).flatMap i64C, 3, .own 1⟩ X
    rwa [hset] at this
  have hne : ∀ j (hj : j < L.length), j ≠ p → L[j] ≠ m := fun j hj e e2 => by
    rw [← hm] at e2
    exact e ((List.getElem_inj hd).1 e2)
  have hrd : Rd H (.s bi 0 L.length (.i 0)) i64C L := by
    have hat : At H bi 0 ((L ++ Z).flatMap i64C) ⟨(L ++ Z).flatMap i64C, 3, .own 1⟩ := ⟨hb, rfl, by unfold seg; rw [List.drop_zero, List.take_length]⟩
    exact Rd.ofl hat
  have hidx := indexFuncN (p := fun x => decide (x = m)) hrd (by omega) (fun j hj X => hf0 _ X)
  rw [idxL_at hp (by simp [hm]) (fun j hj hjp => by simpa using hne j hj (by omega))] at hidx
  have hp1 : ((p : Int) = -1) = False := eq_false (by omega)
  refine cal_fn 40 mixed Try.func78 Try.ntmps78 Try.results78 rfl rfl rfl fun hw cx hx hq => ?_
  repeat (first | (simp only [go_sem, Int.reduceLT, Int.reduceLE, Int.reduceEq, Int.reduceToNat, hcs, hp1]) | ((with_reducible refine And.intro ?_ ?_); omega) | ((with_reducible refine isSK ?_); first | (refine call_ret (hidx) (by simp only [go_sem, Int.reduceLT, Int.reduceLE, Int.reduceEq, Int.reduceToNat, hcs, hp1]) ?_)) | ((with_reducible refine isMC ?_); first | (refine mcall_ret (hidx) (by simp only [go_sem, Int.reduceLT, Int.reduceLE, Int.reduceEq, Int.reduceToNat, hcs, hp1]) (by simp only [go_sem, Int.reduceLT, Int.reduceLE, Int.reduceEq, Int.reduceToNat, hcs, hp1]) ?_)) | ((with_reducible refine And.intro ?_ ?_); first | (with_reducible rfl) | assumption | (simp only [go_sem]; done)))
  refine WK_for (fun i : Nat => ⟨[.s bi 0 L.length (.i 0), .f fn cs, .any, .any, .any, .v (.int .i64 i), .v (.int .i64 ((i : Int) + 1))] ++ junk 35, H.set bi ⟨(dlF L p i ++ Z).flatMap i64C, 3, .own 1⟩⟩) (fun i => p ≤ i ∧ i + 1 ≤ L.length) (fun i => L.length - i) p ?_ ⟨Nat.le_refl _, by omega⟩ fun i hi => ?_
  · rw [dlF_first hp, hset]
    exact Weak.slots (by simp [go_sem])
  have hD := dlF_len (i := i) hp (by omega)
  have hfl : ((dlF L p i ++ Z).flatMap i64C).length = L.length + Z.length := by rw [flat_i64.flen, Nat.mul_one, List.length_append, hD]
  rcases Int.lt_or_le ((i : Int) + 1) L.length with hc | hc
  · have hj : i + 1 < L.length := by omega
    have hc1 : ((i : Int) + 1 < (L.length : Int)) = True := eq_true hc
    have hat := (At.mk0 (H := H) (L := []) (cs := (dlF L p i ++ Z).flatMap i64C) (t := 3) (k := .own 1) rfl).i64 (j := i + 1) (show i + 1 < (dlF L p i ++ Z).length by rw [List.length_append, hD]; omega)
    have hx := dlF_at (i := i) hp hj
    have hx2 : (dlF L p i ++ Z)[i + 1]'(by rw [List.length_append, hD]; omega) = L[i + 1] := by
      rw [List.getElem_append_left (by rw [hD]; omega)]
      rw [List.getElem?_eq_getElem (by rw [hD]; omega)] at hx
      exact Option.some.inj hx
    rw [hx2] at hat
    simp only [Nat.zero_add] at hat
    have tk : ((i : Int) + 1).toNat = i + 1 := by omega
    have hcl := hf L[i + 1] ⟨(dlF L p i ++ Z).flatMap i64C, 3, .own 1⟩ []
    rw [List.append_nil, decide_eq_false (hne (i + 1) hj (by omega))] at hcl
    have hst := flat_set i64C 1 (fun _ => rfl) (dlF L p i ++ Z) i L[i + 1] (by rw [List.length_append, hD]; omega)
    rw [Nat.mul_one, List.set_append_left _ _ (by rw [hD]; omega), dlF_next hi.1 hj] at hst
    repeat (first | (simp only [go_sem, Int.reduceLT, Int.reduceLE, Int.reduceEq, Int.reduceToNat, hcs, hc1, hget, hlt, hat, tk, hfl, List.set_set]) | ((with_reducible refine And.intro ?_ ?_); omega) | ((with_reducible refine isSK ?_); first | (refine call_ret (hcl) (by simp only [go_sem, Int.reduceLT, Int.reduceLE, Int.reduceEq, Int.reduceToNat, hcs, hc1, hget, hlt, hat, tk, hfl, List.set_set]) ?_)) | ((with_reducible refine isMC ?_); first | (refine mcall_ret (hcl) (by simp only [go_sem, Int.reduceLT, Int.reduceLE, Int.reduceEq, Int.reduceToNat, hcs, hc1, hget, hlt, hat, tk, hfl, List.set_set]) (by simp only [go_sem, Int.reduceLT, Int.reduceLE, Int.reduceEq, Int.reduceToNat, hcs, hc1, hget, hlt, hat, tk, hfl, List.set_set]) ?_)) | ((with_reducible refine And.intro ?_ ?_); first | (with_reducible rfl) | assumption | (simp only [go_sem]; done)))
    have hst2 : wr ((dlF L p i ++ Z).flatMap i64C) i [V.v (.int .i64 L[i + 1])] = (dlF L p (i + 1) ++ Z).flatMap i64C := hst
    rw [hst2]
    refine EK_again (i + 1) (Weak.slots ?_) ⟨by omega, by omega⟩ (by omega)
    simp [go_sem]
  · have hc1 : ((i : Int) + 1 < (L.length : Int)) = False := eq_false (by omega)
    have hin : i + 1 = L.length := by omega
    have cd : ((0 : Int) < (i : Int) ∧ (i : Int) = (L.length : Int)) = False := eq_false (by omega)
    have cd2 : ((i : Int) = (L.length : Int)) = False := eq_false (by omega)
    have tk : ((i : Int)).toNat = i := by omega
    have hone : L.length - i = 1 := by omega
    have hst := flat_set i64C 1 (fun _ => rfl) (dlF L p i ++ Z) i 0 (by rw [List.length_append, hD]; omega)
    rw [Nat.mul_one, dlF_last hp hin, List.append_assoc, List.set_append_right _ _ (by rw [List.length_eraseIdx_of_lt hp]; omega), List.length_eraseIdx_of_lt hp, show i - (L.length - 1) = 0 by omega] at hst
    have hst2 : wr ((dlF L p i ++ Z).flatMap i64C) i [V.v (.int .i64 0)] = (L.eraseIdx p ++ (0 :: Z)).flatMap i64C := by
      rw [dlF_last hp hin, List.append_assoc]; exact hst
    have hfl2 : ((L.eraseIdx p ++ (0 :: Z)).flatMap i64C).length = L.length + Z.length := by
      rw [flat_i64.flen, Nat.mul_one, List.length_append, List.length_eraseIdx_of_lt hp, List.length_cons]; omega
    repeat (first | (simp only [go_sem, Int.reduceLT, Int.reduceLE, Int.reduceEq, Int.reduceToNat, hcs, hc1, hget, hlt, cd, cd2, if_false, tk, hone, hfl, hst2, hfl2, List.set_set]) | ((with_reducible refine And.intro ?_ ?_); omega) | ((with_reducible refine And.intro ?_ ?_); first | (with_reducible rfl) | assumption | (simp only [go_sem]; done)))
    refine ret_at hq _ (.inl rfl) (by simp) ?_
    have hil : i = L.length - 1 := by omega
    simp [go_sem, hil]
end Go.Proofs.Ytjkkallcgplgmaa

