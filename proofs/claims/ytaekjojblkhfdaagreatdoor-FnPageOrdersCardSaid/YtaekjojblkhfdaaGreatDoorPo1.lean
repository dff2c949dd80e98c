/- Contracts of functions of the translated program, by the walk. -/
import Derived.Test.YtaekjojblkhfdaaGreatDoorC6
import Derived.Test.YtaekjojblkhfdaaGreatDoorPl0
import Derived.Test.YtaekjojblkhfdaaGreatDoorLD
import Derived.Test.YtaekjojblkhfdaaGreatDoorBo1
set_option linter.unusedVariables false
set_option linter.unusedSimpArgs false
set_option maxRecDepth 8000
set_option maxHeartbeats 16000000
namespace Go.Proofs.YtaekjojblkhfdaaGreatDoor
open Go Go.Sx
def mnI (l : List (Nat → Int)) (I : Nat → Bool) (j : Nat) : Nat → Int
  | 0 => -1
  | c + 1 => if I c = true ∧ (mnI l I j c < 0 ∨ jmp l c j < mnI l I j c) then jmp l c j else mnI l I j c
theorem mnI_range (l : List (Nat → Int)) (I : Nat → Bool) (j : Nat) : ∀ c, -1 ≤ mnI l I j c ∧ mnI l I j c ≤ 144
  | 0 => by simp [mnI]
  | c + 1 => by
    have ih := mnI_range l I j c
    have := jmp_le l c j
    unfold mnI
    split <;> omega
def addI (I : Nat → Bool) (m i : Nat) : Bool := I i || decide (i = m)
theorem mnI_add {l : List (Nat → Int)} {I : Nat → Bool} {j m : Nat} (hm : I m = false) : ∀ c, mnI l (addI I m) j c = if m < c then (if mnI l I j c < 0 then jmp l m j else min (mnI l I j c) (jmp l m j)) else mnI l I j c
  | 0 => by simp [mnI]
  | c + 1 => by
    have ih := mnI_add (l := l) (j := j) hm c
    have r := mnI_range l I j c
    have hj := jmp_le l m j
    have hc := jmp_le l c j
    rw [mnI, ih, mnI]
    by_cases h1 : m < c
    · have e1 : addI I m c = I c := by unfold addI; simp; omega
      rw [if_pos h1, if_pos (show m < c + 1 by omega), e1]
      cases hI : I c
      · simp
      · simp only [true_and]
        generalize mnI l I j c = x at r ⊢
        generalize jmp l c j = C at hc ⊢
        generalize jmp l m j = J at hj ⊢
        by_cases h2 : x < 0
        · have d1 : (if x < 0 ∨ C < x then C else x) = C := if_pos (.inl h2)
          rw [if_pos h2, d1, if_neg (show ¬ C < 0 by omega)]
          split <;> omega
        · have d0 : (if x < 0 then J else min x J) = min x J := if_neg h2
          rw [d0]
          by_cases h3 : C < x
          · have d1 : (if x < 0 ∨ C < x then C else x) = C := if_pos (.inr h3)
            rw [d1, if_neg (show ¬ C < 0 by omega)]
            split <;> omega
          · have d1 : (if x < 0 ∨ C < x then C else x) = x := if_neg (by omega)
            rw [d1, if_neg h2]
            split <;> omega
    · rw [if_neg h1]
      by_cases h2 : m = c
      · subst h2
        have e1 : addI I m m = true := by unfold addI; simp
        rw [e1, hm, if_pos (show m < m + 1 by omega)]
        simp only [true_and, Bool.false_eq_true, false_and, if_false]
        by_cases h3 : mnI l I j m < 0
        · rw [if_pos (.inl h3), if_pos h3]
        · rw [if_neg h3]
          split <;> omega
      · have e1 : addI I m c = I c := by unfold addI; simp; omega
        rw [e1, if_neg (show ¬ m < c + 1 by omega)]
def fmin (near : Nat → Int) : Nat → List Nat → Nat
  | m, [] => m
  | m, i :: r => fmin near (if near i < near m then i else m) r
theorem fmin_mem (near : Nat → Int) : ∀ (r : List Nat) (m : Nat), fmin near m r = m ∨ fmin near m r ∈ r
  | [], m => .inl rfl
  | i :: r, m => by
    unfold fmin
    have ih := fmin_mem near r (if near i < near m then i else m)
    rcases ih with e | e
    · rw [e]; split
      · exact .inr (List.mem_cons_self ..)
      · exact .inl rfl
    · exact .inr (List.mem_cons_of_mem _ e)
theorem fmin_ext {near near' : Nat → Int} : ∀ (r : List Nat) (m : Nat), (∀ i, i = m ∨ i ∈ r → near i = near' i) → fmin near m r = fmin near' m r
  | [], m, _ => rfl
  | i :: r, m, h => by
    unfold fmin
    rw [h i (.inr (List.mem_cons_self ..)), h m (.inl rfl)]
    refine fmin_ext r _ fun k hk => ?_
    rcases hk with e | e
    · split at e
      · exact h k (.inr (by rw [e]; exact List.mem_cons_self ..))
      · exact h k (.inl e)
    · exact h k (.inr (List.mem_cons_of_mem _ e))
def tbN (l : List (Nat → Int)) : Nat → List Nat → (Nat → Int) → Int
  | 0, _, _ => 0
  | _ + 1, [], _ => 0
  | n + 1, a :: r, near => near (fmin near a r) + tbN l n ((a :: r).filter fun i => decide (i ≠ fmin near a r)) (fun i => min (near i) (jmp l (fmin near a r) i))
end Go.Proofs.YtaekjojblkhfdaaGreatDoor
namespace Go.Proofs.YtaekjojblkhfdaaGreatDoor
open Go Go.Sx
theorem isNaN64 {H : List Blk} {x : Int} : Cal Tryz.prog 89 [.v (.int .i64 x)] H fun u H' => u = .v (.bool false) ∧ H' = H := by
  refine cal_fn 5 mixed Tryz.func89 Tryz.ntmps89 Tryz.results89 rfl rfl rfl fun hw cx hx hq => ?_
  repeat ((simp only [go_sem, Int.reduceLT, Int.reduceLE, Int.reduceEq, Int.reduceToNat]) )
  refine ret_same hq _ (.inl rfl) ?_
  simp [go_sem]
def cmpI (x y : Int) : Int := if x < y then -1 else if y < x then 1 else 0
theorem compare64 {H : List Blk} {x y : Int} : Cal Tryz.prog 52 [.v (.int .i64 x), .v (.int .i64 y)] H fun u H' => u = .v (.int .i64 (cmpI x y)) ∧ H' = H := by
  refine cal_fn 18 mixed Tryz.func52 Tryz.ntmps52 Tryz.results52 rfl rfl rfl fun hw cx hx hq => ?_
  by_cases h1 : x < y
  · have e1 : (x < y) = True := eq_true h1
    repeat (first | (simp only [go_sem, Int.reduceLT, Int.reduceLE, Int.reduceEq, Int.reduceToNat, e1]) | ((with_reducible refine isSK ?_); refine call_ret (isNaN64) ?_ ?_) )
    refine ret_same hq _ (.inl rfl) ?_
    simp [go_sem, cmpI, h1]
  have e1 : (x < y) = False := eq_false h1
  by_cases h2 : y < x
  · have e2 : (y < x) = True := eq_true h2
    repeat (first | (simp only [go_sem, Int.reduceLT, Int.reduceLE, Int.reduceEq, Int.reduceToNat, e1, e2]) | ((with_reducible refine isSK ?_); refine call_ret (isNaN64) ?_ ?_) )
    refine ret_same hq _ (.inl rfl) ?_
    simp [go_sem, cmpI, h1, h2]
  have e2 : (y < x) = False := eq_false h2
  repeat (first | (simp only [go_sem, Int.reduceLT, Int.reduceLE, Int.reduceEq, Int.reduceToNat, e1, e2]) | ((with_reducible refine isSK ?_); refine call_ret (isNaN64) ?_ ?_) )
  refine ret_same hq _ (.inl rfl) ?_
  simp [go_sem, cmpI, h1, h2]
theorem treeBound1 {H : List Blk} {bc br n : Nat} {near : Nat → Int} {c : Cap} {x y : Nat} {t2 t3 : TypeId} {k2 k3 : BK} (hc : H[bc]? = some ⟨[.s br 0 n c], t2, k2⟩) (l2 : k2.live = true) (hrow : H[br]? = some ⟨rowL .i64 n near, t3, k3⟩) (l3 : k3.live = true) (hx0 : x < n) (hy0 : y < n) :
    Cal Tryz.prog 51 [.v (.int .i64 x), .v (.int .i64 y), .p bc 0] H fun u H' => u = .v (.int .i64 (cmpI (near x) (near y))) ∧ H' = H := by
  have lc := (List.getElem?_eq_some_iff.1 hc).1
  have lr := (List.getElem?_eq_some_iff.1 hrow).1
  refine cal_fn 12 mixed Tryz.func51 Tryz.ntmps51 Tryz.results51 rfl rfl rfl fun hw cx hx hq => ?_
  repeat (first | (simp only [go_sem, Int.reduceLT, Int.reduceLE, Int.reduceEq, Int.reduceToNat, hc, hrow, l2, l3, rowL_cel _ _ _ hx0, rowL_cel _ _ _ hy0, rowL_length]) | ((with_reducible refine And.intro ?_ ?_); omega) | ((with_reducible refine isSK ?_); refine call_ret (compare64) ?_ ?_) | ((with_reducible refine isWKr (id := 1) ?_); refine WK_drawUp 1 [[],[],[0,1],[0,1,2],[],[],[4,5],[4,5,6],[0,1,2,3,4,5,6,7],[0,1,2,3,4,5,6,7,8]] 8 (by kernel_rfl) ?_; dsimp only [List.take, List.drop]) )
  refine ret_same hq _ (.inl rfl) ?_
  simp [go_sem]
theorem treeBound2 {H : List Blk} {bn : Nat} {x m : Int} {t2 : TypeId} {k2 : BK} (hc : H[bn]? = some ⟨[.v (.int .i64 m)], t2, k2⟩) (l2 : k2.live = true) :
    Cal Tryz.prog 54 [.v (.int .i64 x), .p bn 0] H fun u H' => u = .v (.bool (decide (x = m))) ∧ H' = H := by
  have lc := (List.getElem?_eq_some_iff.1 hc).1
  refine cal_fn 5 mixed Tryz.func54 Tryz.ntmps54 Tryz.results54 rfl rfl rfl fun hw cx hx hq => ?_
  repeat ((simp only [go_sem, Int.reduceLT, Int.reduceLE, Int.reduceEq, Int.reduceToNat, hc, l2]) )
  refine ret_same hq _ (.inl rfl) ?_
  simp [go_sem]
def natI (l : List Nat) : List Int := l.map fun j : Nat => (j : Int)
theorem fmin_snoc (near : Nat → Int) : ∀ (r : List Nat) (m j : Nat), fmin near m (r ++ [j]) = if near j < near (fmin near m r) then j else fmin near m r
  | [], m, j => rfl
  | i :: r, m, j => by rw [List.cons_append, fmin, fmin, fmin_snoc near r]
theorem minFunc {H : List Blk} {v : V} {a : Nat} {r : List Nat} {near : Nat → Int} {fn : Nat} {cs : List V} (h : Rd H v i64C (natI (a :: r))) (hl : r.length ≤ 1000) (hcs : cs.all V.solid = true) (hf : ∀ x y : Nat, x ∈ a :: r → y ∈ a :: r → Cal Tryz.prog fn ([.v (.int .i64 x), .v (.int .i64 y)] ++ cs) H fun u H' => u = .v (.int .i64 (cmpI (near x) (near y))) ∧ H' = H) :
    Cal Tryz.prog 50 [v, .f fn cs] H fun u H' => u = .v (.int .i64 (fmin near a r)) ∧ H' = H := by
  have hsol := h.solid
  have hL := h.lenV (P := Tryz.prog) slTy79
  have hlen : (natI (a :: r)).length = r.length + 1 := by simp [natI]
  obtain ⟨i0, off, c, b, rfl, hat, hfit⟩ := h.full (by omega)
  have hfl : ((natI (a :: r)).flatMap i64C).length = r.length + 1 := by rw [flat_i64.flen, Nat.mul_one, hlen]
  rw [hfl] at hfit
  have c1 : (((natI (a :: r)).length : Int) < 1) = False := eq_false (by omega)
  have e0 := hat.i64 (j := 0) (by omega)
  have e0' : (natI (a :: r))[0]'(by omega) = (a : Int) := rfl
  rw [e0', Nat.add_zero] at e0
  have b0 : (0 < (natI (a :: r)).length) = True := eq_true (by omega)
  refine cal_fn 31 mixed Tryz.func50 Tryz.ntmps50 Tryz.results50 rfl rfl rfl fun hw cx hx hq => ?_
  repeat (first | (simp only [go_sem, Int.reduceLT, Int.reduceLE, Int.reduceEq, Int.reduceToNat, hsol, hL, hcs, c1, e0, b0, hat.get, hat.live]) | ((with_reducible refine And.intro ?_ ?_); omega) )
  refine WK_for (fun k : Nat => ⟨[.s i0 off (natI (a :: r)).length c, .f fn cs, .any, .any, .any, .v (.int .i64 (fmin near a (r.take k))), .v (.int .i64 ((k : Int) + 1))] ++ junk 26, H⟩) (fun k => k ≤ r.length) (fun k => r.length - k) 0 (Weak.slots ?_) ?_ fun k hk => ?_
  · simp [go_sem, fmin]
  · simp
  rcases Int.lt_or_le ((k : Int) + 1) ((natI (a :: r)).length) with hc | hc
  · have hj : k < r.length := by omega
    have hc1 : ((k : Int) + 1 < ((natI (a :: r)).length : Int)) = True := eq_true hc
    have e1 := hat.i64 (j := k + 1) (by omega)
    have e1' : (natI (a :: r))[k + 1]'(by omega) = (r[k] : Int) := by simp [natI]
    rw [e1'] at e1
    have tk : ((k : Int) + 1).toNat = k + 1 := by omega
    have b1 : (k + 1 < (natI (a :: r)).length) = True := eq_true (by omega)
    have hs := fmin_snoc near (r.take k) a r[k]
    rw [← List.take_succ_eq_append_getElem hj] at hs
    have hm := fmin_mem near (r.take k) a
    generalize fmin near a (r.take k) = m at hs hm ⊢
    have hmm : m ∈ a :: r := by
      rcases hm with e | e
      · rw [e]; exact List.mem_cons_self ..
      · exact List.mem_cons_of_mem _ (List.mem_of_mem_take e)
    have hcl := hf r[k] m (List.mem_cons_of_mem _ (List.getElem_mem hj)) hmm
    by_cases h5 : near r[k] < near m
    · have hci : cmpI (near r[k]) (near m) = -1 := by unfold cmpI; rw [if_pos h5]
      rw [hci] at hcl
      rw [if_pos h5] at hs
      repeat (first | (simp only [go_sem, Int.reduceLT, Int.reduceLE, Int.reduceEq, Int.reduceToNat, hsol, hL, hcs, hc1, e1, tk, b1, hat.get, hat.live]) | ((with_reducible refine And.intro ?_ ?_); omega) | ((with_reducible refine isSK ?_); refine call_ret (hcl) ?_ ?_) )
      refine EK_again (k + 1) (Weak.slots ?_) (by omega) (by omega)
      rw [hs]
      simp [go_sem]
    · have hci : (cmpI (near r[k]) (near m) < 0) = False := by unfold cmpI; rw [if_neg h5]; split <;> simp
      rw [if_neg h5] at hs
      repeat (first | (simp only [go_sem, Int.reduceLT, Int.reduceLE, Int.reduceEq, Int.reduceToNat, hsol, hL, hcs, hc1, e1, tk, b1, hci, hat.get, hat.live]) | ((with_reducible refine And.intro ?_ ?_); omega) | ((with_reducible refine isSK ?_); refine call_ret (hcl) ?_ ?_) )
      refine EK_again (k + 1) (Weak.slots ?_) (by omega) (by omega)
      rw [hs]
      simp [go_sem]
  · have : k = r.length := by omega
    subst this
    have hc1 : ((r.length : Int) + 1 < ((natI (a :: r)).length : Int)) = False := eq_false (by omega)
    rw [List.take_length]
    repeat ((simp only [go_sem, Int.reduceLT, Int.reduceLE, Int.reduceEq, Int.reduceToNat, hL, hc1]) )
    refine ret_same hq _ (.inl rfl) ?_
    simp [go_sem]
end Go.Proofs.YtaekjojblkhfdaaGreatDoor
namespace Go.Proofs.YtaekjojblkhfdaaGreatDoor
open Go Go.Sx

theorem indexFuncN {H : List Blk} {v : V} {l : List (Int)} {p : (Int) → Bool} {fn : Nat} {cs : List V} (h : Rd H v i64C l) (hm : l.length ≤ 9223372036854775806)
    (hp : ∀ j (hj : j < l.length), ∀ L, Cal Tryz.prog fn (.v (.int .i64 l[j]) :: cs) (H ++ L) fun v H' => v = .v (.bool (p l[j])) ∧ H' = H ++ L) :
    Cal Tryz.prog 90 [v, .f fn cs] H fun u H' => u = .v (.int .i64 (idxL p l)) ∧ H' = H := by
  have hL := h.lenV (P := Tryz.prog) slTy79
  refine cal_fn 17 mixed Tryz.func90 Tryz.ntmps90 Tryz.results90 rfl rfl rfl fun hw cx hx hq => ?_
  simp only [go_sem, hL]
  refine WK_for (fun n : Nat => ⟨[v, .f fn cs, .any, .any, .any, .any, .any, .v (.int .i64 l.length), .v (.int .i64 n)] ++ junk 10, H⟩) (fun n => n ≤ l.length ∧ ∀ j (hj : j < l.length), j < n → p l[j] = false) (fun n => l.length - n) 0 (Weak.slots ?_) ?_ fun n hn => ?_
  · simp [go_sem]
  · simp
  rcases Int.lt_or_le (n : Int) l.length with hc | hc
  · have hj : n < l.length := by omega
    obtain ⟨i, off, c, bl, rfl, hat⟩ := h.row (by omega)
    have hfit := hat.fits i64C 1 (fun _ => rfl) hj (by omega)
    have hq' := hp n hj []
    rw [List.append_nil] at hq'
    simp only [go_sem, hc, hat.get, hat.live, hat.i64 hj]
    repeat (refine And.intro (by omega) ?_)
    refine call_ret hq' (by simp only [go_sem]) ?_
    simp only [go_sem]
    refine ⟨fun e => ?_, fun e => ?_⟩
    · refine ret_same hq _ (.inl rfl) ?_
      simp only [go_sem]
      rw [idxL_at hj e hn.2]
    · repeat (refine And.intro (by omega) ?_)
      refine EK_again (n + 1) (Weak.slots (by simp [go_sem])) ⟨by omega, fun j hj2 hj3 => ?_⟩ (by omega)
      by_cases e2 : j = n
      · subst e2; exact e
      · exact hn.2 j hj2 (by omega)
  · simp only [go_sem, Int.not_lt.2 hc]
    refine ret_same hq _ (.inl rfl) ?_
    simp only [go_sem]
    rw [idxL_none fun j hj => hn.2 j hj (by omega)]
def dlF (L : List Int) (p i : Nat) : List Int := (L.eraseIdx p).take i ++ L.drop i
theorem dlF_len {L : List Int} {p i : Nat} (hp : p < L.length) (hi : i < L.length) : (dlF L p i).length = L.length := by
  unfold dlF
  rw [List.length_append, List.length_take, List.length_drop, List.length_eraseIdx_of_lt hp]; omega
theorem dlF_first {L : List Int} {p : Nat} (hp : p < L.length) : dlF L p p = L := by
  unfold dlF
  rw [List.eraseIdx_eq_take_drop_succ, List.take_append_of_le_length (by rw [List.length_take]; omega), List.take_take, Nat.min_self, List.take_append_drop]
theorem dlF_at {L : List Int} {p i : Nat} (hp : p < L.length) (hi : i + 1 < L.length) : (dlF L p i)[i + 1]? = some L[i + 1] := by
  unfold dlF
  have hl : ((L.eraseIdx p).take i).length = i := by rw [List.length_take, List.length_eraseIdx_of_lt hp]; omega
  rw [List.getElem?_append_right (by omega), hl, List.getElem?_drop, show i + (i + 1 - i) = i + 1 by omega, List.getElem?_eq_getElem hi]
theorem dlF_next {L : List Int} {p i : Nat} (hp : p ≤ i) (hi : i + 1 < L.length) : (dlF L p i).set i L[i + 1] = dlF L p (i + 1) := by
  unfold dlF
  have hle : (L.eraseIdx p).length = L.length - 1 := List.length_eraseIdx_of_lt (by omega)
  have hl : ((L.eraseIdx p).take i).length = i := by rw [List.length_take, hle]; omega
  rw [List.set_append_right _ _ (by omega), hl, Nat.sub_self, List.drop_eq_getElem_cons (show i < L.length by omega), List.set_cons_zero, List.take_succ_eq_append_getElem (show i < (L.eraseIdx p).length by omega), List.getElem_eraseIdx_of_ge (by omega) hp, List.append_assoc]
  rfl
theorem dlF_last {L : List Int} {p i : Nat} (hp : p < L.length) (hi : i + 1 = L.length) : dlF L p i = L.eraseIdx p ++ [L[i]] := by
  unfold dlF
  rw [List.take_of_length_le (by rw [List.length_eraseIdx_of_lt hp]; omega), List.drop_eq_getElem_cons (show i < L.length by omega), List.drop_of_length_le (by omega)]
theorem deleteFunc {H : List Blk} {bi : Nat} {L Z : List Int} {p : Nat} {m : Int} {fn : Nat} {cs : List V} (hb : H[bi]? = some ⟨(L ++ Z).flatMap i64C, 3, .own 1⟩) (hp : p < L.length) (hm : L[p] = m) (hd : L.Nodup) (hl : L.length ≤ 1000) (hcs : cs.all V.solid = true)
    (hf : ∀ (x : Int) (b : Blk) (X : List Blk), Cal Tryz.prog fn ([.v (.int .i64 x)] ++ cs) (H.set bi b ++ X) fun u H' => u = .v (.bool (decide (x = m))) ∧ H' = H.set bi b ++ X) :
    Cal Tryz.prog 53 [.s bi 0 L.length (.i 0), .f fn cs] H fun u H' => u = .s bi 0 (L.length - 1) (.i 0) ∧ H' = H.set bi ⟨(L.eraseIdx p ++ (0 :: Z)).flatMap i64C, 3, .own 1⟩ := by
  have hlt := (List.getElem?_eq_some_iff.1 hb).1
  have hset := set_get hb
  have hget : ∀ b : Blk, (H.set bi b)[bi]? = some b := fun b => List.getElem?_set_self hlt
  have hf0 : ∀ (x : Int) (X : List Blk), Cal Tryz.prog fn ([.v (.int .i64 x)] ++ cs) (H ++ X) fun u H' => u = .v (.bool (decide (x = m))) ∧ H' = H ++ X := fun x X => by
    have := hf x ⟨(L ++ Z).flatMap i64C, 3, .own 1⟩ X
    rwa [hset] at this
  have hne : ∀ j (hj : j < L.length), j ≠ p → L[j] ≠ m := fun j hj e e2 => by
    rw [← hm] at e2
    exact e ((List.getElem_inj hd).1 e2)
  have hrd : Rd H (.s bi 0 L.length (.i 0)) i64C L := by
    have hat : At H bi 0 ((L ++ Z).flatMap i64C) ⟨(L ++ Z).flatMap i64C, 3, .own 1⟩ := ⟨hb, rfl, by unfold seg; rw [List.drop_zero, List.take_length]⟩
    exact Rd.ofl hat
  have hidx := indexFuncN (p := fun x => decide (x = m)) hrd (by omega) (fun j hj X => hf0 _ X)
  rw [idxL_at hp (by simp [hm]) (fun j hj hjp => by simpa using hne j hj (by omega))] at hidx
  have hp1 : ((p : Int) = -1) = False := eq_false (by omega)
  refine cal_fn 40 mixed Tryz.func53 Tryz.ntmps53 Tryz.results53 rfl rfl rfl fun hw cx hx hq => ?_
  repeat (first | (simp only [go_sem, Int.reduceLT, Int.reduceLE, Int.reduceEq, Int.reduceToNat, hcs, hp1]) | ((with_reducible refine And.intro ?_ ?_); omega) | ((with_reducible refine isSK ?_); refine call_ret (hidx) ?_ ?_) )
  refine WK_for (fun i : Nat => ⟨[.s bi 0 L.length (.i 0), .f fn cs, .any, .any, .any, .v (.int .i64 i), .v (.int .i64 ((i : Int) + 1))] ++ junk 35, H.set bi ⟨(dlF L p i ++ Z).flatMap i64C, 3, .own 1⟩⟩) (fun i => p ≤ i ∧ i + 1 ≤ L.length) (fun i => L.length - i) p ?_ ⟨Nat.le_refl _, by omega⟩ fun i hi => ?_
  · rw [dlF_first hp, hset]
    exact Weak.slots (by simp [go_sem])
  have hD := dlF_len (i := i) hp (by omega)
  have hfl : ((dlF L p i ++ Z).flatMap i64C).length = L.length + Z.length := by rw [flat_i64.flen, Nat.mul_one, List.length_append, hD]
  rcases Int.lt_or_le ((i : Int) + 1) L.length with hc | hc
  · have hj : i + 1 < L.length := by omega
    have hc1 : ((i : Int) + 1 < (L.length : Int)) = True := eq_true hc
    have hat := (At.mk0 (H := H) (L := []) (cs := (dlF L p i ++ Z).flatMap i64C) (t := 3) (k := .own 1) rfl).i64 (j := i + 1) (show i + 1 < (dlF L p i ++ Z).length by rw [List.length_append, hD]; omega)
    have hx := dlF_at (i := i) hp hj
    have hx2 : (dlF L p i ++ Z)[i + 1]'(by rw [List.length_append, hD]; omega) = L[i + 1] := by
      rw [List.getElem_append_left (by rw [hD]; omega)]
      rw [List.getElem?_eq_getElem (by rw [hD]; omega)] at hx
      exact Option.some.inj hx
    rw [hx2] at hat
    simp only [Nat.zero_add] at hat
    have tk : ((i : Int) + 1).toNat = i + 1 := by omega
    have hcl := hf L[i + 1] ⟨(dlF L p i ++ Z).flatMap i64C, 3, .own 1⟩ []
    rw [List.append_nil, decide_eq_false (hne (i + 1) hj (by omega))] at hcl
    have hst := flat_set i64C 1 (fun _ => rfl) (dlF L p i ++ Z) i L[i + 1] (by rw [List.length_append, hD]; omega)
    rw [Nat.mul_one, List.set_append_left _ _ (by rw [hD]; omega), dlF_next hi.1 hj] at hst
    repeat (first | (simp only [go_sem, Int.reduceLT, Int.reduceLE, Int.reduceEq, Int.reduceToNat, hcs, hc1, hget, hlt, hat, tk, hfl, List.set_set]) | ((with_reducible refine And.intro ?_ ?_); omega) | ((with_reducible refine isSK ?_); refine call_ret (hcl) ?_ ?_) )
    have hst2 : wr ((dlF L p i ++ Z).flatMap i64C) i [V.v (.int .i64 L[i + 1])] = (dlF L p (i + 1) ++ Z).flatMap i64C := hst
    rw [hst2]
    refine EK_again (i + 1) (Weak.slots ?_) ⟨by omega, by omega⟩ (by omega)
    simp [go_sem]
  · have hc1 : ((i : Int) + 1 < (L.length : Int)) = False := eq_false (by omega)
    have hin : i + 1 = L.length := by omega
    have cd : ((0 : Int) < (i : Int) ∧ (i : Int) = (L.length : Int)) = False := eq_false (by omega)
    have cd2 : ((i : Int) = (L.length : Int)) = False := eq_false (by omega)
    have tk : ((i : Int)).toNat = i := by omega
    have hone : L.length - i = 1 := by omega
    have hst := flat_set i64C 1 (fun _ => rfl) (dlF L p i ++ Z) i 0 (by rw [List.length_append, hD]; omega)
    rw [Nat.mul_one, dlF_last hp hin, List.append_assoc, List.set_append_right _ _ (by rw [List.length_eraseIdx_of_lt hp]; omega), List.length_eraseIdx_of_lt hp, show i - (L.length - 1) = 0 by omega] at hst
    have hst2 : wr ((dlF L p i ++ Z).flatMap i64C) i [V.v (.int .i64 0)] = (L.eraseIdx p ++ (0 :: Z)).flatMap i64C := by
      rw [dlF_last hp hin, List.append_assoc]; exact hst
    have hfl2 : ((L.eraseIdx p ++ (0 :: Z)).flatMap i64C).length = L.length + Z.length := by
      rw [flat_i64.flen, Nat.mul_one, List.length_append, List.length_eraseIdx_of_lt hp, List.length_cons]; omega
    repeat (first | (simp only [go_sem, Int.reduceLT, Int.reduceLE, Int.reduceEq, Int.reduceToNat, hcs, hc1, hget, hlt, cd, cd2, if_false, tk, hone, hfl, hst2, hfl2, List.set_set]) | ((with_reducible refine And.intro ?_ ?_); omega) )
    refine ret_at hq _ (.inl rfl) (by simp) ?_
    have hil : i = L.length - 1 := by omega
    simp [go_sem, hil]
end Go.Proofs.YtaekjojblkhfdaaGreatDoor
namespace Go.Proofs.YtaekjojblkhfdaaGreatDoor
open Go Go.Sx
def bsS (near : Nat → Int) (I : Nat → Bool) : Nat → Int × Int
  | 0 => (-1, 0)
  | c + 1 => if I c = true then bsS near I c else if (bsS near I c).1 < 0 ∨ near c < (bsS near I c).2 then ((c : Int), near c) else bsS near I c
def outL (I : Nat → Bool) (c : Nat) : List Nat := (List.range c).filter fun j => !I j
theorem outL_succ (I : Nat → Bool) (c : Nat) : outL I (c + 1) = outL I c ++ (if I c = true then [] else [c]) := by
  unfold outL
  rw [List.range_succ, List.filter_append]
  congr 1
  cases h : I c <;> simp [h]
theorem bsS_out (near : Nat → Int) (I : Nat → Bool) : ∀ c, (outL I c = [] → bsS near I c = (-1, 0)) ∧ ∀ a r, outL I c = a :: r → bsS near I c = (((fmin near a r : Nat) : Int), near (fmin near a r))
  | 0 => ⟨fun _ => rfl, fun a r h => by simp [outL] at h⟩
  | c + 1 => by
    have ih := bsS_out near I c
    rw [outL_succ, bsS]
    cases hI : I c
    · simp only [Bool.false_eq_true, if_false]
      refine ⟨fun h => by simp at h, fun a r h => ?_⟩
      cases ho : outL I c with
      | nil =>
        rw [ho] at h
        obtain ⟨rfl, rfl⟩ : c = a ∧ [] = r := by simpa using h
        rw [ih.1 ho, if_pos (.inl (by decide))]; rfl
      | cons b s =>
        rw [ho] at h
        obtain ⟨rfl, rfl⟩ : b = a ∧ s ++ [c] = r := by simpa using h
        rw [ih.2 _ _ ho, fmin_snoc]
        by_cases h5 : near c < near (fmin near b s)
        · rw [if_pos (.inr h5), if_pos h5]
        · rw [if_neg (by simp only; omega), if_neg h5]
    · simp only [if_true, List.append_nil]
      exact ih
end Go.Proofs.YtaekjojblkhfdaaGreatDoor
namespace Go.Proofs.YtaekjojblkhfdaaGreatDoor
open Go Go.Sx
def refN (l : List (Nat → Int)) (n : Nat) : Nat → (Nat → Bool) → Int
  | 0, _ => 0
  | r + 1, I => max 0 (bsS (fun j => mnI l I j n) I n).2 + refN l n r (addI I (bsS (fun j => mnI l I j n) I n).1.toNat)
theorem tbN_ext {l : List (Nat → Int)} : ∀ (n : Nat) (L : List Nat) {near near' : Nat → Int}, (∀ i ∈ L, near i = near' i) → tbN l n L near = tbN l n L near'
  | 0, L, _, _, _ => by cases L <;> rfl
  | n + 1, [], _, _, _ => rfl
  | n + 1, a :: r, near, near', h => by
    have hm : fmin near a r = fmin near' a r := fmin_ext r a fun i hi => by
      rcases hi with e | e
      · rw [e]; exact h a (List.mem_cons_self ..)
      · exact h i (List.mem_cons_of_mem _ e)
    have hmem : fmin near' a r ∈ a :: r := by
      rcases fmin_mem near' r a with e | e
      · rw [e]; exact List.mem_cons_self ..
      · exact List.mem_cons_of_mem _ e
    unfold tbN
    rw [hm, h _ hmem]
    congr 1
    exact tbN_ext n _ fun i hi => by rw [h i ((List.mem_filter.1 hi).1)]
theorem outL_mem {I : Nat → Bool} {n j : Nat} : j ∈ outL I n ↔ j < n ∧ I j = false := by simp [outL]
theorem outL_nodup (I : Nat → Bool) (n : Nat) : (outL I n).Nodup := List.nodup_range.filter _
theorem outL_add {I : Nat → Bool} {n m : Nat} : outL (addI I m) n = (outL I n).filter fun i => decide (i ≠ m) := by
  unfold outL
  rw [List.filter_filter]
  congr 1
  funext j
  unfold addI
  cases I j <;> simp
theorem filter_len {L : List Nat} {m : Nat} (h : m ∈ L) (hn : L.Nodup) : (L.filter fun i => decide (i ≠ m)).length = L.length - 1 := by
  have : (L.filter fun i => decide (i ≠ m)) = L.erase m := by
    rw [hn.erase_eq_filter]
    congr 1
    funext i
    by_cases e : i = m
    · simp [e]
    · simp [e, bne]
  rw [this, List.length_erase_of_mem h]
theorem refN_tb {l : List (Nat → Int)} {n : Nat} : ∀ (r : Nat) (I : Nat → Bool), (outL I n).length = r → (∀ j ∈ outL I n, 0 ≤ mnI l I j n) → refN l n r I = tbN l r (outL I n) fun j => mnI l I j n
  | 0, I, _, _ => by cases outL I n <;> rfl
  | r + 1, I, hl, h0 => by
    have hb := (bsS_out (fun j => mnI l I j n) I n).2
    have hnd := outL_nodup I n
    have hadd : ∀ m, outL (addI I m) n = (outL I n).filter fun i => decide (i ≠ m) := fun m => outL_add
    have hmm : ∀ j, j ∈ outL I n → j < n ∧ I j = false := fun j hj => outL_mem.1 hj
    cases ho : outL I n with
    | nil => rw [ho] at hl; cases hl
    | cons a R =>
      have hb1 := hb a R ho
      rw [ho] at hnd hl h0 hmm
      have hmem : fmin (fun j => mnI l I j n) a R ∈ a :: R := by
        rcases fmin_mem (fun j => mnI l I j n) R a with e | e
        · rw [e]; exact List.mem_cons_self ..
        · exact List.mem_cons_of_mem _ e
      unfold refN tbN
      rw [hb1]
      simp only [Int.toNat_natCast]
      generalize hgm : fmin (fun j => mnI l I j n) a R = m at hmem
      have hm := hmm m hmem
      have hadm := hadd m
      rw [ho] at hadm
      have hfl := filter_len hmem hnd
      have e1 : ∀ j, j ∈ a :: R → mnI l (addI I m) j n = min (mnI l I j n) (jmp l m j) := fun j hj => by
        rw [mnI_add hm.2, if_pos hm.1, if_neg (by have := h0 j hj; omega)]
      have ih := refN_tb r (addI I m) (by rw [hadm, hfl, hl]; rfl) (fun j hj => by
        rw [hadm] at hj
        have hj2 := (List.mem_filter.1 hj).1
        rw [e1 j hj2]
        have := h0 j hj2
        have := (jmp_le l m j).1
        omega)
      rw [ih, hadm]
      have := h0 m hmem
      rw [show max 0 (mnI l I m n) = mnI l I m n by omega]
      congr 1
      exact tbN_ext r _ fun i hi => e1 i ((List.mem_filter.1 hi).1)
def leftL (n : Nat) : List Nat := (List.range (n - 1)).map fun j => j + 1
theorem leftL_len (n : Nat) : (leftL n).length = n - 1 := by simp [leftL]
theorem mnI_none (l : List (Nat → Int)) (j : Nat) : ∀ c, mnI l (fun _ => false) j c = -1
  | 0 => rfl
  | c + 1 => by rw [mnI, if_neg (by simp)]; exact mnI_none l j c
theorem fmin_const (x : Int) : ∀ (r : List Nat) (m : Nat), fmin (fun _ => x) m r = m
  | [], _ => rfl
  | i :: r, m => by unfold fmin; rw [if_neg (Int.lt_irrefl _)]; exact fmin_const x r m
theorem outL_none (n : Nat) : outL (fun _ => false) n = List.range n := by simp [outL]
def tbV (l : List (Nat → Int)) : Int := tbN l (l.length - 1) (leftL l.length) fun j => jmp l 0 j
theorem refN_all (l : List (Nat → Int)) : refN l l.length l.length (fun _ => false) = tbV l := by
  unfold tbV
  generalize l.length = n
  cases n with
  | zero => rfl
  | succ n =>
    have hr : List.range (n + 1) = 0 :: (List.range n).map (fun j => j + 1) := by rw [List.range_succ_eq_map]
    have hb := (bsS_out (fun j => mnI l (fun _ => false) j (n + 1)) (fun _ => false) (n + 1)).2 0 ((List.range n).map (fun j => j + 1)) (by rw [outL_none]; exact hr)
    have hc : (fun j => mnI l (fun _ => false) j (n + 1)) = fun _ => -1 := funext fun j => mnI_none l j _
    rw [hc, fmin_const] at hb
    have hout : outL (addI (fun _ => false) 0) (n + 1) = leftL (n + 1) := by
      rw [outL_add, outL_none, hr]
      unfold leftL
      simp [List.filter_map]
      rw [List.filter_eq_self.2]
      · intro a _; rfl
    have hn : ∀ j, mnI l (addI (fun _ => false) 0) j (n + 1) = jmp l 0 j := fun j => by
      rw [mnI_add rfl, if_pos (by omega), mnI_none, if_pos (by decide)]
    unfold refN
    rw [hc, hb]
    simp only [Int.toNat_natCast, Nat.add_sub_cancel]
    rw [refN_tb n _ (by rw [hout, leftL_len]; rfl) (fun j _ => by rw [hn]; exact (jmp_le l 0 j).1), hout]
    have : (fun j => mnI l (addI (fun _ => false) 0) j (n + 1)) = fun j => jmp l 0 j := funext hn
    rw [this]
    rw [mnI_none, show max (0 : Int) (-1) = 0 by decide, Int.zero_add]
end Go.Proofs.YtaekjojblkhfdaaGreatDoor
namespace Go.Proofs.YtaekjojblkhfdaaGreatDoor
open Go Go.Sx
def ordJ (l : List (Nat → Int)) (o : List Int) : Int := psL (inO l o)
theorem allJ_ordJ (l : List (Nat → Int)) (o : List Int) : allJ (inO l o) = ordJ l o := allJ_psL _
theorem jmp_sym (l : List (Nat → Int)) (x y : Nat) : jmp l x y = jmp l y x := jumpF_sym _ _
theorem ordJ_path (l : List (Nat → Int)) : ∀ o : List Int, ordJ l o = sumI (pathW (jmp l) (o.map Int.toNat))
  | [] => rfl
  | [_] => rfl
  | a :: b :: r => by
    have ih := ordJ_path l (b :: r)
    have e : ordJ l (a :: b :: r) = jmp l a.toNat b.toNat + ordJ l (b :: r) := rfl
    rw [e, ih]; rfl
/- The tree. -/
theorem fmin_le (near : Nat → Int) : ∀ (r : List Nat) (m : Nat), near (fmin near m r) ≤ near m ∧ ∀ i ∈ r, near (fmin near m r) ≤ near i
  | [], m => ⟨Int.le_refl _, fun i h => by cases h⟩
  | j :: r, m => by
    have ih := fmin_le near r (if near j < near m then j else m)
    unfold fmin
    have h1 := ih.1
    by_cases e : near j < near m
    · rw [if_pos e] at h1 ih ⊢
      refine ⟨by omega, fun i hi => ?_⟩
      rcases List.mem_cons.1 hi with rfl | hi
      · exact h1
      · exact ih.2 i hi
    · rw [if_neg e] at h1 ih ⊢
      refine ⟨h1, fun i hi => ?_⟩
      rcases List.mem_cons.1 hi with rfl | hi
      · omega
      · exact ih.2 i hi
theorem tb_prim (l : List (Nat → Int)) : ∀ (k : Nat) (L : List Nat) (near : Nat → Int), (∀ i ∈ L, 0 ≤ near i ∧ near i ≤ 144) → ∃ ps, PrimP (jmp l) L near ps ∧ tbN l k L near = sumI ps ∧ ∀ x ∈ ps, 0 ≤ x ∧ x ≤ 144
  | 0, L, near, _ => ⟨[], .nil _ _, by cases L <;> rfl, fun x h => by cases h⟩
  | k + 1, [], near, _ => ⟨[], .nil _ _, rfl, fun x h => by cases h⟩
  | k + 1, a :: r, near, hn => by
    have hm : fmin near a r ∈ a :: r := by
      rcases fmin_mem near r a with e | e
      · rw [e]; exact List.mem_cons_self ..
      · exact List.mem_cons_of_mem _ e
    have hle := fmin_le near r a
    obtain ⟨ps, h1, h2, h3⟩ := tb_prim l k ((a :: r).filter fun i => decide (i ≠ fmin near a r)) (fun i => min (near i) (jmp l (fmin near a r) i)) fun i hi => by
      have h4 := hn i (List.mem_filter.1 hi).1
      have h5 := jmp_le l (fmin near a r) i
      omega
    refine ⟨near (fmin near a r) :: ps, .step hm (fun i hi => ?_) h1, ?_, fun x hx => ?_⟩
    · rcases List.mem_cons.1 hi with rfl | hi
      · exact hle.1
      · exact hle.2 i hi
    · rw [tbN, h2]; rfl
    · rcases List.mem_cons.1 hx with rfl | hx
      · exact hn _ hm
      · exact h3 x hx
theorem ord_all {o : List Int} {n : Nat} (h : OrdP o n) {k : Nat} (hk : k < n) : (k : Int) ∈ o := by
  have hn := h.1
  subst hn
  rw [← (sortL_perm o).mem_iff, sortL_plain h]
  exact List.mem_map.2 ⟨k, List.mem_range.2 hk, rfl⟩
theorem tb_le {l : List (Nat → Int)} {o : List Int} (ho : OrdP o l.length) : tbV l ≤ ordJ l o := by
  rw [ordJ_path]
  unfold tbV
  by_cases h0 : l.length = 0
  · rw [h0]
    have e : o = [] := List.length_eq_zero_iff.1 (by rw [ho.1, h0])
    subst e
    exact Int.le_refl _
  obtain ⟨ps, h1, h2, h3⟩ := tb_prim l (l.length - 1) (leftL l.length) (fun j => jmp l 0 j) fun i _ => jmp_le l 0 i
  rw [h2]
  have hL : ∀ i, i ∈ leftL l.length ↔ 0 < i ∧ i < l.length := fun i => by
    unfold leftL
    rw [List.mem_map]
    constructor
    · rintro ⟨j, hj, rfl⟩
      have := List.mem_range.1 hj; omega
    · intro h
      exact ⟨i - 1, List.mem_range.2 (by omega), by omega⟩
  refine prim_le (n := l.length) (T := 144) (s := 0) (jmp_sym l) (fun x y => jmp_le l x y) (fun v hv => ?_) (fun v hv => ?_) h1 h3 (fun i hi => ((hL i).1 hi).2) (fun i hi s hs hsL => ?_) (by omega) (fun h => by have := (hL 0).1 h; omega)
  · obtain ⟨k, hk, rfl⟩ := List.mem_map.1 hv
    have := ho.2.1 k hk; omega
  · exact List.mem_map.2 ⟨(v : Int), ord_all ho hv, by omega⟩
  · have hs0 : s = 0 := by
      apply Classical.byContradiction
      intro h
      exact hsL ((hL s).2 ⟨by omega, hs⟩)
    rw [hs0]; exact Int.le_refl _
/- The best order. -/
theorem inO_app (l : List (Nat → Int)) (a b : List Int) : inO l (a ++ b) = inO l a ++ inO l b := by simp [inO]
theorem psL_nn : ∀ L : List (Nat → Int), 0 ≤ psL L
  | [] => Int.le_refl _
  | a :: r => by
    have ih := psL_nn r
    rw [psL_cons]
    have : 0 ≤ brO (some a) r.head? := by
      cases r with
      | nil => exact Int.le_refl _
      | cons b r => exact (jumpF_le a b).1
    omega
theorem brO_nn (x y : Option (Nat → Int)) : 0 ≤ brO x y := by
  cases x <;> cases y <;> simp [brO]
  exact (jumpF_le _ _).1
theorem ordJ_pre {l : List (Nat → Int)} {a b : List Int} (h : a <+: b) : ordJ l a ≤ ordJ l b := by
  obtain ⟨q, rfl⟩ := h
  unfold ordJ
  rw [inO_app, psL_app]
  have h1 := psL_nn (inO l q)
  have h2 := brO_nn (inO l a).getLast? (inO l q).head?
  omega
theorem ordJ_snoc (l : List (Nat → Int)) (o : List Int) (c : Nat) : ordJ l (o ++ [(c : Int)]) = ordJ l o + moreJ l o c := by
  unfold ordJ moreJ
  rw [inO_app, psL_app]
  have e1 : (inO l o).getLast? = o.getLast?.map fun k => pg l k.toNat := by unfold inO; rw [List.getLast?_map]
  have e2 : psL (inO l [(c : Int)]) = 0 := rfl
  have e3 : (inO l [(c : Int)]).head? = some (pg l c) := by simp [inO]
  rw [e1, e2, e3]
  cases o.getLast? with
  | none => simp [brO]
  | some p => simp [brO, jmp]
theorem ordJ_range (l : List (Nat → Int)) : ∀ o : List Int, 0 ≤ ordJ l o ∧ ordJ l o ≤ 144 * (o.length : Int)
  | [] => ⟨Int.le_refl _, Int.le_refl _⟩
  | [_] => ⟨Int.le_refl _, by show (0 : Int) ≤ 144 * ((1 : Nat) : Int); omega⟩
  | a :: b :: r => by
    have ih := ordJ_range l (b :: r)
    have e : ordJ l (a :: b :: r) = jmp l a.toNat b.toNat + ordJ l (b :: r) := rfl
    have hj := jmp_le l a.toNat b.toNat
    rw [e, List.length_cons]
    push_cast
    omega
theorem ordJ_nil (l : List (Nat → Int)) : ordJ l [] = 0 := rfl
theorem ordJ_one (l : List (Nat → Int)) (x : Int) : ordJ l [x] = 0 := rfl
def PartP (o : List Int) (n : Nat) : Prop := (∀ k ∈ o, 0 ≤ k ∧ k < (n : Int)) ∧ o.Nodup
theorem part_snoc {o : List Int} {n c : Nat} (h : PartP o n) (hc : c < n) (hn : hasI o (c : Int) = false) : PartP (o ++ [(c : Int)]) n := by
  have hni : (c : Int) ∉ o := fun hh => by rw [hasI_iff.2 hh] at hn; cases hn
  refine ⟨fun k hk => ?_, ?_⟩
  · rcases List.mem_append.1 hk with hk | hk
    · exact h.1 k hk
    · rw [List.mem_singleton.1 hk]; omega
  · rw [List.nodup_append]
    refine ⟨h.2, by simp, fun a ha b hb e => ?_⟩
    rw [List.mem_singleton.1 hb] at e
    exact hni (e ▸ ha)
def GoodS (l : List (Nat → Int)) (pre : List Int) (st : SS) : Prop := ∀ b x, st = some (b, x) → OrdP b l.length ∧ x = ordJ l b ∧ pre <+: b
theorem srch_good {l : List (Nat → Int)} {pre : List Int} : ∀ (f : Nat) (o : List Int) (st : SS), PartP o l.length → o.length + f = l.length → pre <+: o → GoodS l pre st → GoodS l pre (srch l l.length f o (ordJ l o) st)
  | 0, o, st, hp, hl, hpre, hg => by
    rw [srch_zero]
    split
    · exact hg
    · intro b x e
      cases e
      exact ⟨⟨by omega, hp.1, hp.2⟩, rfl, hpre⟩
  | f + 1, o, st, hp, hl, hpre, hg => by
    rw [srch_succ]
    split
    · exact hg
    · have : ∀ c, c ≤ l.length → GoodS l pre (srK l l.length f o (ordJ l o) st c) := by
        intro c
        induction c with
        | zero => exact fun _ => hg
        | succ c ih =>
          intro hc
          unfold srK
          split
          · exact ih (by omega)
          · rename_i hh
            have hh2 : hasI o (c : Int) = false := by cases e : hasI o (c : Int) with | false => rfl | true => exact absurd e hh
            rw [← ordJ_snoc]
            exact srch_good f _ _ (part_snoc hp (by omega) hh2) (by simp; omega) (List.IsPrefix.trans hpre (List.prefix_append _ _)) (ih (by omega))
      exact this _ (Nat.le_refl _)
def AtMost (st : SS) (B : Int) : Prop := ∃ b x, st = some (b, x) ∧ x ≤ B
theorem impS_most {n : Nat} {a b : SS} {B : Int} (h : impS n a b) (ha : AtMost a B) : AtMost b B := by
  rcases h with rfl | ⟨b1, x1, rfl, _, _, _, r⟩
  · exact ha
  · obtain ⟨b0, y, rfl, hy⟩ := ha
    have := r b0 y rfl
    exact ⟨b1, x1, rfl, by omega⟩
theorem srch_best {l : List (Nat → Int)} (h8 : l.length ≤ 8) {b : List Int} (hb : OrdP b l.length) : ∀ (f : Nat) (o : List Int) (st : SS), o <+: b → o.length + f = l.length → AtMost (srch l l.length f o (ordJ l o) st) (ordJ l b)
  | 0, o, st, hpre, hl => by
    have e : o = b := hpre.eq_of_length (by rw [hb.1]; omega)
    subst e
    rw [srch_zero]
    split
    · rename_i hc
      unfold cutS at hc
      cases st with
      | none => cases hc
      | some p => exact ⟨p.1, p.2, rfl, by simpa using hc⟩
    · exact ⟨o, _, rfl, Int.le_refl _⟩
  | f + 1, o, st, hpre, hl => by
    have hs := ordJ_range l o
    rw [srch_succ]
    split
    · rename_i hc
      unfold cutS at hc
      cases st with
      | none => cases hc
      | some p =>
        have h1 : p.2 ≤ ordJ l o := by simpa using hc
        have h2 := ordJ_pre (l := l) hpre
        exact ⟨p.1, p.2, rfl, by omega⟩
    · obtain ⟨q, rfl⟩ := hpre
      cases q with
      | nil => have h1 := hb.1; rw [List.append_nil] at h1; omega
      | cons k q =>
        have hk := hb.2.1 k (by simp)
        obtain ⟨c, rfl⟩ := Int.eq_ofNat_of_zero_le hk.1
        have hco : hasI o (c : Int) = false := by
          cases e : hasI o (c : Int) with
          | false => rfl
          | true =>
            have hn := hb.2.2
            rw [List.nodup_append] at hn
            exact absurd rfl (hn.2.2 _ (hasI_iff.1 e) _ (List.mem_cons_self ..))
        have e2 : o ++ (c : Int) :: q = (o ++ [(c : Int)]) ++ q := by simp
        have key : ∀ d, c < d → AtMost (srK l l.length f o (ordJ l o) st d) (ordJ l (o ++ (c : Int) :: q)) := by
          intro d
          induction d with
          | zero => intro h; omega
          | succ d ih =>
            intro hd
            unfold srK
            by_cases e : d = c
            · subst e
              rw [if_neg (by rw [hco]; decide), ← ordJ_snoc]
              exact srch_best h8 hb f _ _ ⟨q, by simp⟩ (by simp; omega)
            · have i1 := ih (by omega)
              split
              · exact i1
              · have hm := moreJ_range l o d
                exact impS_most (srch_imp h8 f _ _ _ (by simp; omega) (by omega) (by simp; omega)) i1
        exact key l.length (by omega)
theorem part_nil (n : Nat) : PartP [] n := ⟨fun k h => (by cases h), by simp⟩
/- A local order, and one that goes to the nearest page. -/
theorem locN_less {l : List (Nat → Int)} : ∀ (k : Nat) (o : List Int), ordJ l (locN l k o) ≤ ordJ l o
  | 0, o => Int.le_refl _
  | k + 1, o => by
    unfold locN
    split
    · exact Int.le_refl _
    · rename_i h
      have ih := locN_less (l := l) k (nextO l o)
      have := next_less h
      rw [allJ_ordJ, allJ_ordJ] at this
      omega
theorem locO_less (l : List (Nat → Int)) (o : List Int) : ordJ l (locO l o) ≤ ordJ l o := locN_less _ _
theorem nbT_new {l : List (Nat → Int)} {now : Nat} {o : List Int} : ∀ k, 0 ≤ nbT l now o k → nbT l now o k ∉ o
  | 0, h => by simp [nbT] at h
  | k + 1, h => by
    unfold nbT at h ⊢
    split at h
    · rename_i hc
      rw [if_pos hc]
      intro hh
      rw [hasI_iff.2 hh] at hc
      exact absurd hc.1 (by decide)
    · rename_i hc
      rw [if_neg hc]
      exact nbT_new k h
theorem noT_nodup {l : List (Nat → Int)} {p : Int} : ∀ n, n < l.length → (noT l p n).Nodup
  | 0, _ => by simp [noT]
  | n + 1, hn => by
    rw [noT_succ, List.nodup_append]
    refine ⟨noT_nodup n (by omega), by simp, fun a ha b hb e => ?_⟩
    rw [List.mem_singleton.1 hb] at e
    exact nbT_new _ (nbT_ok (l := l) (now := nowT l p n) (o := noT l p n) (by rw [noT_len]; exact hn)).1 (e ▸ ha)
theorem noT_head (l : List (Nat → Int)) (p : Int) : ∀ n, [p] <+: noT l p n
  | 0 => List.prefix_refl _
  | n + 1 => List.IsPrefix.trans (noT_head l p n) (List.prefix_append _ _)
theorem noL_ord {l : List (Nat → Int)} {p : Int} (hp : 0 ≤ p ∧ p < l.length) : OrdP (noL l p) l.length ∧ [p] <+: noL l p :=
  ⟨⟨by unfold noL; rw [noT_len]; omega, noT_ok hp _ (by omega), noT_nodup _ (by omega)⟩, noT_head l p _⟩
end Go.Proofs.YtaekjojblkhfdaaGreatDoor
