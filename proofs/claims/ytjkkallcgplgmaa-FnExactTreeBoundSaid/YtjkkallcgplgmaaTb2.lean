/- Contracts of functions of the translated program, by the walk. -/
import Derived.Test.YtjkkallcgplgmaaTb1
import Derived.Test.YtjkkallcgplgmaaD2
import Derived.Test.YtjkkallcgplgmaaLD
set_option linter.unusedVariables false
set_option linter.unusedSimpArgs false
set_option maxRecDepth 8000
set_option maxHeartbeats 4000000
namespace Go.Proofs.Ytjkkallcgplgmaa
open Go Go.Sx
theorem isNaN64 {H : List Blk} {x : Int} : Cal Try.prog 114 [.v (.int .i64 x)] H fun u H' => u = .v (.bool false) ∧ H' = H := by
  refine cal_fn 5 mixed Try.func114 Try.ntmps114 Try.results114 rfl rfl rfl fun hw cx hx hq => ?_
  repeat (first | (simp only [go_sem, Int.reduceLT, Int.reduceLE, Int.reduceEq, Int.reduceToNat]) | ((with_reducible refine And.intro ?_ ?_); omega) | ((with_reducible refine And.intro ?_ ?_); first | (with_reducible rfl) | assumption | (simp only [go_sem]; done)))
  refine ret_same hq _ (.inl rfl) ?_
  simp [go_sem]
def cmpI (x y : Int) : Int := if x < y then -1 else if y < x then 1 else 0
theorem compare64 {H : List Blk} {x y : Int} : Cal Try.prog 77 [.v (.int .i64 x), .v (.int .i64 y)] H fun u H' => u = .v (.int .i64 (cmpI x y)) ∧ H' = H := by
  refine cal_fn 18 mixed Try.func77 Try.ntmps77 Try.results77 rfl rfl rfl fun hw cx hx hq => ?_
  by_cases h1 : x < y
  · have e1 : (x < y) = True := eq_true h1
    repeat (first | (simp only [go_sem, Int.reduceLT, Int.reduceLE, Int.reduceEq, Int.reduceToNat, e1]) | ((with_reducible refine And.intro ?_ ?_); omega) | ((with_reducible refine isSK ?_); first | (refine call_ret (isNaN64) (by simp only [go_sem, Int.reduceLT, Int.reduceLE, Int.reduceEq, Int.reduceToNat, e1]) ?_)) | ((with_reducible refine isMC ?_); first | (refine mcall_ret (isNaN64) (by simp only [go_sem, Int.reduceLT, Int.reduceLE, Int.reduceEq, Int.reduceToNat, e1]) (by simp only [go_sem, Int.reduceLT, Int.reduceLE, Int.reduceEq, Int.reduceToNat, e1]) ?_)) | ((with_reducible refine And.intro ?_ ?_); first | (with_reducible rfl) | assumption | (simp only [go_sem]; done)))
    refine ret_same hq _ (.inl rfl) ?_
    simp [go_sem, cmpI, h1]
  have e1 : (x < y) = False := eq_false h1
  by_cases h2 : y < x
  · have e2 : (y < x) = True := eq_true h2
    repeat (first | (simp only [go_sem, Int.reduceLT, Int.reduceLE, Int.reduceEq, Int.reduceToNat, e1, e2]) | ((with_reducible refine And.intro ?_ ?_); omega) | ((with_reducible refine isSK ?_); first | (refine call_ret (isNaN64) (by simp only [go_sem, Int.reduceLT, Int.reduceLE, Int.reduceEq, Int.reduceToNat, e1, e2]) ?_)) | ((with_reducible refine isMC ?_); first | (refine mcall_ret (isNaN64) (by simp only [go_sem, Int.reduceLT, Int.reduceLE, Int.reduceEq, Int.reduceToNat, e1, e2]) (by simp only [go_sem, Int.reduceLT, Int.reduceLE, Int.reduceEq, Int.reduceToNat, e1, e2]) ?_)) | ((with_reducible refine And.intro ?_ ?_); first | (with_reducible rfl) | assumption | (simp only [go_sem]; done)))
    refine ret_same hq _ (.inl rfl) ?_
    simp [go_sem, cmpI, h1, h2]
  have e2 : (y < x) = False := eq_false h2
  repeat (first | (simp only [go_sem, Int.reduceLT, Int.reduceLE, Int.reduceEq, Int.reduceToNat, e1, e2]) | ((with_reducible refine And.intro ?_ ?_); omega) | ((with_reducible refine isSK ?_); first | (refine call_ret (isNaN64) (by simp only [go_sem, Int.reduceLT, Int.reduceLE, Int.reduceEq, Int.reduceToNat, e1, e2]) ?_)) | ((with_reducible refine isMC ?_); first | (refine mcall_ret (isNaN64) (by simp only [go_sem, Int.reduceLT, Int.reduceLE, Int.reduceEq, Int.reduceToNat, e1, e2]) (by simp only [go_sem, Int.reduceLT, Int.reduceLE, Int.reduceEq, Int.reduceToNat, e1, e2]) ?_)) | ((with_reducible refine And.intro ?_ ?_); first | (with_reducible rfl) | assumption | (simp only [go_sem]; done)))
  refine ret_same hq _ (.inl rfl) ?_
  simp [go_sem, cmpI, h1, h2]
theorem treeBound1 {H : List Blk} {bc br n : Nat} {near : Nat → Int} {c : Cap} {x y : Nat} {t2 t3 : TypeId} {k2 k3 : BK} (hc : H[bc]? = some ⟨[.s br 0 n c], t2, k2⟩) (l2 : k2.live = true) (hrow : H[br]? = some ⟨rowL .i64 n near, t3, k3⟩) (l3 : k3.live = true) (hx0 : x < n) (hy0 : y < n) :
    Cal Try.prog 76 [.v (.int .i64 x), .v (.int .i64 y), .p bc 0] H fun u H' => u = .v (.int .i64 (cmpI (near x) (near y))) ∧ H' = H := by
  have lc := (List.getElem?_eq_some_iff.1 hc).1
  have lr := (List.getElem?_eq_some_iff.1 hrow).1
  refine cal_fn 12 mixed Try.func76 Try.ntmps76 Try.results76 rfl rfl rfl fun hw cx hx hq => ?_
  repeat (first | (simp only [go_sem, Int.reduceLT, Int.reduceLE, Int.reduceEq, Int.reduceToNat, hc, hrow, l2, l3, rowL_cel _ _ _ hx0, rowL_cel _ _ _ hy0, rowL_length]) | ((with_reducible refine And.intro ?_ ?_); omega) | ((with_reducible refine isSK ?_); first | (refine call_ret (compare64) (by simp only [go_sem, Int.reduceLT, Int.reduceLE, Int.reduceEq, Int.reduceToNat, hc, hrow, l2, l3, rowL_cel _ _ _ hx0, rowL_cel _ _ _ hy0, rowL_length]) ?_)) | ((with_reducible refine isMC ?_); first | (refine mcall_ret (compare64) (by simp only [go_sem, Int.reduceLT, Int.reduceLE, Int.reduceEq, Int.reduceToNat, hc, hrow, l2, l3, rowL_cel _ _ _ hx0, rowL_cel _ _ _ hy0, rowL_length]) (by simp only [go_sem, Int.reduceLT, Int.reduceLE, Int.reduceEq, Int.reduceToNat, hc, hrow, l2, l3, rowL_cel _ _ _ hx0, rowL_cel _ _ _ hy0, rowL_length]) ?_)) | ((with_reducible refine isWKr (id := 1) ?_); refine WK_drawUp 1 [[],[],[0,1],[0,1,2],[],[],[4,5],[4,5,6],[0,1,2,3,4,5,6,7],[0,1,2,3,4,5,6,7,8]] 8 (by kernel_rfl) ?_; dsimp only [List.take, List.drop]) | ((with_reducible refine And.intro ?_ ?_); first | (with_reducible rfl) | assumption | (simp only [go_sem]; done)))
  refine ret_same hq _ (.inl rfl) ?_
  simp [go_sem]
theorem treeBound2 {H : List Blk} {bn : Nat} {x m : Int} {t2 : TypeId} {k2 : BK} (hc : H[bn]? = some ⟨[.v (.int .i64 m)], t2, k2⟩) (l2 : k2.live = true) :
    Cal Try.prog 79 [.v (.int .i64 x), .p bn 0] H fun u H' => u = .v (.bool (decide (x = m))) ∧ H' = H := by
  have lc := (List.getElem?_eq_some_iff.1 hc).1
  refine cal_fn 5 mixed Try.func79 Try.ntmps79 Try.results79 rfl rfl rfl fun hw cx hx hq => ?_
  repeat (first | (simp only [go_sem, Int.reduceLT, Int.reduceLE, Int.reduceEq, Int.reduceToNat, hc, l2]) | ((with_reducible refine And.intro ?_ ?_); omega) | ((with_reducible refine And.intro ?_ ?_); first | (with_reducible rfl) | assumption | (simp only [go_sem]; done)))
  refine ret_same hq _ (.inl rfl) ?_
  simp [go_sem]
/-- Places as numbers. -/
def natI (l : List Nat) : List Int := l.map fun j : Nat => (j : Int)
theorem fmin_snoc (near : Nat → Int) : ∀ (r : List Nat) (m j : Nat), fmin near m (r ++ [j]) = if near j < near (fmin near m r) then j else fmin near m r
  | [], m, j => rfl
  | i :: r, m, j => by rw [List.cons_append, fmin, fmin, fmin_snoc near r]
theorem minFunc {H : List Blk} {v : V} {a : Nat} {r : List Nat} {near : Nat → Int} {fn : Nat} {cs : List V} (h : Rd H v i64C (natI (a :: r))) (hl : r.length ≤ 1000) (hcs : cs.all V.solid = true) (hf : ∀ x y : Nat, x ∈ a :: r → y ∈ a :: r → Cal Try.prog fn ([.v (.int .i64 x), .v (.int .i64 y)] ++ cs) H fun u H' => u = .v (.int .i64 (cmpI (near x) (near y))) ∧ H' = H) :
    Cal Try.prog 75 [v, .f fn cs] H fun u H' => u = .v (.int .i64 (fmin near a r)) ∧ H' = H := by
  have hsol := h.solid
  have hL := h.lenV (P := Try.prog) slTy80
  have hlen : (natI (a :: r)).length = r.length + 1 := by simp [natI]
  obtain ⟨i0, off, c, b, rfl, hat, hfit⟩ := h.full (by omega)
  have hfl : ((natI (a :: r)).flatMap i64C).length = r.length + 1 := by rw [flat_i64.flen, Nat.mul_one, hlen]
  rw [hfl] at hfit
  have c1 : (((natI (a :: r)).length : Int) < 1) = False := eq_false (by omega)
  have e0 := hat.i64 (j := 0) (by omega)
  have e0' : (natI (a :: r))[0]'(by omega) = (a : Int) := rfl
  rw [e0', Nat.add_zero] at e0
  have b0 : (0 < (natI (a :: r)).length) = True := eq_true (by omega)
  refine cal_fn 31 mixed Try.func75 Try.ntmps75 Try.results75 rfl rfl rfl fun hw cx hx hq => ?_
  repeat (first | (simp only [go_sem, Int.reduceLT, Int.reduceLE, Int.reduceEq, Int.reduceToNat, hsol, hL, hcs, c1, e0, b0, hat.get, hat.live]) | ((with_reducible refine And.intro ?_ ?_); omega) | ((with_reducible refine And.intro ?_ ?_); first | (with_reducible rfl) | assumption | (simp only [go_sem]; done)))
  refine WK_for (fun k : Nat => ⟨[.s i0 off (natI (a :: r)).length c, .f fn cs, .any, .any, .any, .v (.int .i64 (fmin near a (r.take k))), .v (.int .i64 ((k : Int) + 1))] ++ junk 26, H⟩) (fun k => k ≤ r.length) (fun k => r.length - k) 0 (Weak.slots ?_) ?_ fun k hk => ?_
  · simp [go_sem, fmin]
  · simp
  rcases Int.lt_or_le ((k : Int) + 1) ((natI (a :: r)).length) with hc | hc
  · have hj : k < r.length := by omega
    have hc1 : ((k : Int) + 1 < ((natI (a :: r)).length : Int)) = True := eq_true hc
    have e1 := hat.i64 (j := k + 1) (by omega)
    have e1' : (natI (a :: r))[k + 1]'(by omega) = (r[k] : Int) := by simp [natI]
    rw [e1'] at e1
    have tk : ((k : Int) + 1).toNat = k + 1 := by omega
    have b1 : (k + 1 < (natI (a :: r)).length) = True := eq_true (by omega)
    have hs := fmin_snoc near (r.take k) a r[k]
    rw [← List.take_succ_eq_append_getElem hj] at hs
    have hm := fmin_mem near (r.take k) a
    generalize fmin near a (r.take k) = m at hs hm ⊢
    have hmm : m ∈ a :: r := by
      rcases hm with e | e
      · rw [e]; exact List.mem_cons_self ..
      · exact List.mem_cons_of_mem _ (List.mem_of_mem_take e)
    have hcl := hf r[k] m (List.mem_cons_of_mem _ (List.getElem_mem hj)) hmm
    by_cases h5 : near r[k] < near m
    · have hci : cmpI (near r[k]) (near m) = -1 := by unfold cmpI; rw [if_pos h5]
      rw [hci] at hcl
      rw [if_pos h5] at hs
      repeat (first | (simp only [go_sem, Int.reduceLT, Int.reduceLE, Int.reduceEq, Int.reduceToNat, hsol, hL, hcs, hc1, e1, tk, b1, hat.get, hat.live]) | ((with_reducible refine And.intro ?_ ?_); omega) | ((with_reducible refine isSK ?_); first | (refine call_ret (hcl) (by simp only [go_sem, Int.reduceLT, Int.reduceLE, Int.reduceEq, Int.reduceToNat, hsol, hL, hcs, hc1, e1, tk, b1, hat.get, hat.live]) ?_)) | ((with_reducible refine isMC ?_); first | (refine mcall_ret (hcl) (by simp only [go_sem, Int.reduceLT, Int.reduceLE, Int.reduceEq, Int.reduceToNat, hsol, hL, hcs, hc1, e1, tk, b1, hat.get, hat.live]) (by simp only [go_sem, Int.reduceLT, Int.reduceLE, Int.reduceEq, Int.reduceToNat, hsol, hL, hcs, hc1, e1, tk, b1, hat.get, hat.live]) ?_)) | ((with_reducible refine And.intro ?_ ?_); first | (with_reducible rfl) | assumption | (simp only [go_sem]; done)))
      refine EK_again (k + 1) (Weak.slots ?_) (by omega) (by omega)
      rw [hs]
      simp [go_sem]
    · have hci : (cmpI (near r[k]) (near m) < 0) = False := by unfold cmpI; rw [if_neg h5]; split <;> simp
      rw [if_neg h5] at hs
      repeat (first | (simp only [go_sem, Int.reduceLT, Int.reduceLE, Int.reduceEq, Int.reduceToNat, hsol, hL, hcs, hc1, e1, tk, b1, hci, hat.get, hat.live]) | ((with_reducible refine And.intro ?_ ?_); omega) | ((with_reducible refine isSK ?_); first | (refine call_ret (hcl) (by simp only [go_sem, Int.reduceLT, Int.reduceLE, Int.reduceEq, Int.reduceToNat, hsol, hL, hcs, hc1, e1, tk, b1, hci, hat.get, hat.live]) ?_)) | ((with_reducible refine isMC ?_); first | (refine mcall_ret (hcl) (by simp only [go_sem, Int.reduceLT, Int.reduceLE, Int.reduceEq, Int.reduceToNat, hsol, hL, hcs, hc1, e1, tk, b1, hci, hat.get, hat.live]) (by simp only [go_sem, Int.reduceLT, Int.reduceLE, Int.reduceEq, Int.reduceToNat, hsol, hL, hcs, hc1, e1, tk, b1, hci, hat.get, hat.live]) ?_)) | ((with_reducible refine And.intro ?_ ?_); first | (with_reducible rfl) | assumption | (simp only [go_sem]; done)))
      refine EK_again (k + 1) (Weak.slots ?_) (by omega) (by omega)
      rw [hs]
      simp [go_sem]
  · have : k = r.length := by omega
    subst this
    have hc1 : ((r.length : Int) + 1 < ((natI (a :: r)).length : Int)) = False := eq_false (by omega)
    rw [List.take_length]
    repeat (first | (simp only [go_sem, Int.reduceLT, Int.reduceLE, Int.reduceEq, Int.reduceToNat, hL, hc1]) | ((with_reducible refine And.intro ?_ ?_); omega) | ((with_reducible refine And.intro ?_ ?_); first | (with_reducible rfl) | assumption | (simp only [go_sem]; done)))
    refine ret_same hq _ (.inl rfl) ?_
    simp [go_sem]
end Go.Proofs.Ytjkkallcgplgmaa

