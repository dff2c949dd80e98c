/- Contracts of functions of the translated program, by the walk. -/
import Derived.Test.YtheeehjgmifclaaRc4
import Derived.Test.YtheeehjgmifclaaC5
set_option linter.unusedVariables false
set_option linter.unusedSimpArgs false
set_option maxRecDepth 8000
set_option maxHeartbeats 4000000
namespace Go.Proofs.Ytheeehjgmifclaa
open Go Go.Sx
theorem where_ {H : List Blk} {p : Nat → Nat → Bool} {fn : Nat} {cs : List V} (hcs : cs.all V.solid = true) (hcl : lts H.length cs = True) (hf : ∀ x y : Nat, x < 12 → y < 12 → ∀ X, Cal Try.prog fn ([.v (.int .i64 x), .v (.int .i64 y)] ++ cs) (H ++ X) fun u H' => u = .v (.bool (p x y)) ∧ H' = H ++ X) :
    Cal Try.prog 93 [.f fn cs] H fun u H' => u = .a (rowL .u16 12 (whP (fun k => p (k % 12) (k / 12)) 144)) ∧ H' = H := by
  refine cal_fn 23 mixed Try.func93 Try.ntmps93 Try.results93 rfl rfl rfl fun hw cx hx hq => ?_
  repeat (first | (simp only [go_sem, Int.reduceLT, Int.reduceLE, Int.reduceEq, Int.reduceToNat, rowL_rep, hcs]) | ((with_reducible refine And.intro ?_ ?_); omega) | ((with_reducible refine And.intro ?_ ?_); first | (with_reducible rfl) | assumption | (simp only [go_sem]; done)))
  refine WK_for (fun y : Nat => ⟨[.f fn cs, .any, .p H.length 0, .p (H.length + 1) 0, .any, .any, .any, .v (.int .i64 y)] ++ junk 16, H ++ [⟨rowL .u16 12 (zeroF), 40, .fix⟩, ⟨rowL .u16 12 (whP (fun k => p (k % 12) (k / 12)) (12 * y)), 40, .fix⟩]⟩) (fun y => y ≤ 12) (fun y => 12 - y) 0 (Weak.slots ?_) (Nat.zero_le _) fun y hy => ?_
  · simp [go_sem]
  rcases Int.lt_or_le (y : Int) 12 with hc | hc
  · have hyi : ((y : Int) < 12) = True := eq_true hc
    repeat (first | (simp only [go_sem, Int.reduceLT, Int.reduceLE, Int.reduceEq, Int.reduceToNat, hyi]) | ((with_reducible refine And.intro ?_ ?_); omega) | ((with_reducible refine And.intro ?_ ?_); first | (with_reducible rfl) | assumption | (simp only [go_sem]; done)))
    refine WK_for (fun x : Nat => ⟨[.f fn cs, .any, .p H.length 0, .p (H.length + 1) 0, .v (.int .i64 y), .any, .any, .v (.int .i64 y), .any, .any, .v (.int .i64 x)] ++ junk 13, H ++ [⟨rowL .u16 12 (zeroF), 40, .fix⟩, ⟨rowL .u16 12 (whP (fun k => p (k % 12) (k / 12)) (12 * y + x)), 40, .fix⟩]⟩) (fun x => x ≤ 12) (fun x => 12 - x) 0 (Weak.slots ?_) (Nat.zero_le _) fun x hxx => ?_
    · simp [go_sem]
    rcases Int.lt_or_le (x : Int) 12 with hc2 | hc2
    · have hxi : ((x : Int) < 12) = True := eq_true hc2
      have hpl : placeB (x : Int) (y : Int) = true := by unfold placeB; simp; omega
      have h16 := whP_16 (fun k => p (k % 12) (k / 12)) (12 * y + x)
      have hst := whP_step (fun k => p (k % 12) (k / 12)) (12 * y + x)
      rw [show (12 * y + x) % 12 = x by omega, show (12 * y + x) / 12 = y by omega] at hst
      have hcf := hf x y (by omega) (by omega)
      cases hp : p x y
      · rw [hp] at hst hcf
        rw [if_neg (by simp)] at hst
        repeat (first | (simp only [go_sem, Int.reduceLT, Int.reduceLE, Int.reduceEq, Int.reduceToNat, hxi, hcs]) | ((with_reducible refine And.intro ?_ ?_); omega) | ((with_reducible refine isSK ?_); first | (refine call_ret (hcf _) (by simp only [go_sem, Int.reduceLT, Int.reduceLE, Int.reduceEq, Int.reduceToNat, hxi, hcs]) ?_)) | ((with_reducible refine isMC ?_); first | (refine mcall_ret (hcf _) (by simp only [go_sem, Int.reduceLT, Int.reduceLE, Int.reduceEq, Int.reduceToNat, hxi, hcs]) (by simp only [go_sem, Int.reduceLT, Int.reduceLE, Int.reduceEq, Int.reduceToNat, hxi, hcs]) ?_)) | ((with_reducible refine And.intro ?_ ?_); first | (with_reducible rfl) | assumption | (simp only [go_sem]; done)))
        refine EK_again (x + 1) ?_ (by omega) (by omega)
        rw [show 12 * y + (x + 1) = 12 * y + x + 1 by omega, hst]
        exact Weak.slots (by simp [go_sem])
      · rw [hp] at hst hcf
        rw [if_pos rfl] at hst
        repeat (first | (simp only [go_sem, Int.reduceLT, Int.reduceLE, Int.reduceEq, Int.reduceToNat, hxi, hcs]) | ((with_reducible refine And.intro ?_ ?_); omega) | ((with_reducible refine isSK ?_); first | (refine call_ret (hcf _) (by simp only [go_sem, Int.reduceLT, Int.reduceLE, Int.reduceEq, Int.reduceToNat, hxi, hcs]) ?_) | (refine call_ret (with_ h16 hpl) (by simp only [go_sem, Int.reduceLT, Int.reduceLE, Int.reduceEq, Int.reduceToNat, hxi, hcs]) ?_)) | ((with_reducible refine isMC ?_); first | (refine mcall_ret (hcf _) (by simp only [go_sem, Int.reduceLT, Int.reduceLE, Int.reduceEq, Int.reduceToNat, hxi, hcs]) (by simp only [go_sem, Int.reduceLT, Int.reduceLE, Int.reduceEq, Int.reduceToNat, hxi, hcs]) ?_) | (refine mcall_ret (with_ h16 hpl) (by simp only [go_sem, Int.reduceLT, Int.reduceLE, Int.reduceEq, Int.reduceToNat, hxi, hcs]) (by simp only [go_sem, Int.reduceLT, Int.reduceLE, Int.reduceEq, Int.reduceToNat, hxi, hcs]) ?_)) | ((with_reducible refine And.intro ?_ ?_); first | (with_reducible rfl) | assumption | (simp only [go_sem]; done)))
        refine EK_again (x + 1) ?_ (by omega) (by omega)
        rw [show 12 * y + (x + 1) = 12 * y + x + 1 by omega, hst]
        exact Weak.slots (by simp [go_sem])
    · obtain rfl : x = 12 := by omega
      have hxi : (((12 : Nat) : Int) < 12) = False := eq_false (by omega)
      repeat (first | (simp only [go_sem, Int.reduceLT, Int.reduceLE, Int.reduceEq, Int.reduceToNat, hxi]) | ((with_reducible refine And.intro ?_ ?_); omega) | ((with_reducible refine And.intro ?_ ?_); first | (with_reducible rfl) | assumption | (simp only [go_sem]; done)))
      refine EK_again (y + 1) (Weak.slots ?_) (by omega) (by omega)
      simp [go_sem]
  · obtain rfl : y = 12 := by omega
    have hyi : (((12 : Nat) : Int) < 12) = False := eq_false (by omega)
    repeat (first | (simp only [go_sem, Int.reduceLT, Int.reduceLE, Int.reduceEq, Int.reduceToNat, hyi]) | ((with_reducible refine And.intro ?_ ?_); omega) | ((with_reducible refine And.intro ?_ ?_); first | (with_reducible rfl) | assumption | (simp only [go_sem]; done)))
    refine ret_cut hq hw _ (.inl rfl) ?_
    simp [go_sem]
theorem readCel11 {H : List Blk} {bt bl : Nat} {t : List Int} {c : Int} {x y : Nat} {t1 t2 : TypeId} {k1 k2 : BK} (ht : B8 t) (h1 : H[bt]? = some ⟨[.v (.string (bstr t))], t1, k1⟩) (l1 : k1.live = true) (h2 : H[bl]? = some ⟨[.v (.int .u8 c)], t2, k2⟩) (l2 : k2.live = true) (hl : t.length = 156) (hx0 : x < 12) (hy0 : y < 12) :
    Cal Try.prog 94 ([.v (.int .i64 x), .v (.int .i64 y)] ++ [.p bt 0, .p bl 0]) H fun u H' => u = .v (.bool (decide (t[13 * y + x]?.getD 0 = c))) ∧ H' = H := by
  have b1 := (List.getElem?_eq_some_iff.1 h1).1
  have b2 := (List.getElem?_eq_some_iff.1 h2).1
  have hj : 13 * y + x < t.length := by omega
  have hat := str_at t ht hj
  have tk : ((y : Int) * 13 + (x : Int)).toNat = 13 * y + x := by omega
  have hg : t[13 * y + x]?.getD 0 = t[13 * y + x] := by rw [List.getElem?_eq_getElem hj]; rfl
  simp only [List.cons_append, List.nil_append]
  refine cal_fn 11 mixed Try.func94 Try.ntmps94 Try.results94 rfl rfl rfl fun hw cx hx hq => ?_
  repeat (first | (simp only [go_sem, Int.reduceLT, Int.reduceLE, Int.reduceEq, Int.reduceToNat, h1, h2, l1, l2, bstr_size, tk, hat, hl]) | ((with_reducible refine And.intro ?_ ?_); omega) | ((with_reducible refine isWKr (id := 1) ?_); refine WK_drawAt 1 [[],[],[1],[],[1,2,3],[0,1,2,3,4],[],[0,1,2,3,4,5,6],[0,1,2,3,4,5,6,7]] (by kernel_rfl) ?_) | ((with_reducible refine And.intro ?_ ?_); first | (with_reducible rfl) | assumption | (simp only [go_sem]; done)))
  refine ret_same hq _ (.inl rfl) ?_
  simp [go_sem, hg]
theorem readCel1 {H : List Blk} {bt : Nat} {t : List Int} {c : Int} {t1 : TypeId} {k1 : BK} (ht : B8 t) (h1 : H[bt]? = some ⟨[.v (.string (bstr t))], t1, k1⟩) (l1 : k1.live = true) (hl : t.length = 156) :
    Cal Try.prog 92 [.v (.int .u8 c), .p bt 0] H fun u H' => u = .a (rowL .u16 12 (whP (isC t c) 144)) ∧ H' = H := by
  have b1 := (List.getElem?_eq_some_iff.1 h1).1
  have b12 : (bt < H.length + 1) = True := eq_true (by omega)
  refine cal_fn 4 mixed Try.func92 Try.ntmps92 Try.results92 rfl rfl rfl fun hw cx hx hq => ?_
  repeat (first | (simp only [go_sem, Int.reduceLT, Int.reduceLE, Int.reduceEq, Int.reduceToNat, rowL_rep, b1]) | ((with_reducible refine And.intro ?_ ?_); omega) | ((with_reducible refine isSK ?_); first | (refine call_ret (where_ (p := fun x y => decide (t[13 * y + x]?.getD 0 = c)) rfl (by simp [go_sem, lts] <;> omega) (fun x y hx1 hy1 X => readCel11 (c := c) ht (get_app (get_app h1)) l1 (get_app (by first | exact (Go.Sx.get_at0 _ _).trans rfl | exact (Go.Sx.get_at _ _ 1).trans rfl | exact (Go.Sx.get_at _ _ 2).trans rfl | exact (Go.Sx.get_at _ _ 3).trans rfl | exact (Go.Sx.get_at _ _ 4).trans rfl | exact (Go.Sx.get_at _ _ 5).trans rfl | exact (Go.Sx.get_at _ _ 6).trans rfl | exact (Go.Sx.get_at _ _ 7).trans rfl | exact (Go.Sx.get_at _ _ 8).trans rfl | exact (Go.Sx.get_at _ _ 9).trans rfl | exact (Go.Sx.get_at _ _ 10).trans rfl | exact (Go.Sx.get_at _ _ 11).trans rfl | exact (Go.Sx.get_at _ _ 12).trans rfl | exact (Go.Sx.get_at _ _ 13).trans rfl | exact (Go.Sx.get_at _ _ 14).trans rfl | exact (Go.Sx.get_at _ _ 15).trans rfl)) rfl hl hx1 hy1)) (by simp only [go_sem, Int.reduceLT, Int.reduceLE, Int.reduceEq, Int.reduceToNat, rowL_rep, b1]) ?_)) | ((with_reducible refine isMC ?_); first | (refine mcall_ret (where_ (p := fun x y => decide (t[13 * y + x]?.getD 0 = c)) rfl (by simp [go_sem, lts] <;> omega) (fun x y hx1 hy1 X => readCel11 (c := c) ht (get_app (get_app h1)) l1 (get_app (by first | exact (Go.Sx.get_at0 _ _).trans rfl | exact (Go.Sx.get_at _ _ 1).trans rfl | exact (Go.Sx.get_at _ _ 2).trans rfl | exact (Go.Sx.get_at _ _ 3).trans rfl | exact (Go.Sx.get_at _ _ 4).trans rfl | exact (Go.Sx.get_at _ _ 5).trans rfl | exact (Go.Sx.get_at _ _ 6).trans rfl | exact (Go.Sx.get_at _ _ 7).trans rfl | exact (Go.Sx.get_at _ _ 8).trans rfl | exact (Go.Sx.get_at _ _ 9).trans rfl | exact (Go.Sx.get_at _ _ 10).trans rfl | exact (Go.Sx.get_at _ _ 11).trans rfl | exact (Go.Sx.get_at _ _ 12).trans rfl | exact (Go.Sx.get_at _ _ 13).trans rfl | exact (Go.Sx.get_at _ _ 14).trans rfl | exact (Go.Sx.get_at _ _ 15).trans rfl)) rfl hl hx1 hy1)) (by simp only [go_sem, Int.reduceLT, Int.reduceLE, Int.reduceEq, Int.reduceToNat, rowL_rep, b1]) (by simp only [go_sem, Int.reduceLT, Int.reduceLE, Int.reduceEq, Int.reduceToNat, rowL_rep, b1]) ?_)) | ((with_reducible refine And.intro ?_ ?_); first | (with_reducible rfl) | assumption | (simp only [go_sem]; done)))
  refine ret_cut hq hw _ (.inl rfl) ?_
  simp [go_sem]
  rfl
theorem joinK {t : List Int} : rowL .u16 12 (joinF (rcF t) (whP (isC t 111) 144)) = rowL .u16 12 (rcG t) := by
  apply rowL_ext
  show ∀ j, j < 12 → joinF (whP (isC t 35) 144) (whP (isC t 111) 144) j = rcG t j
  have hj16 : R16 (joinF (whP (isC t 35) 144) (whP (isC t 111) 144)) := joinF_r16 (whP_16 _ _) (whP_16 _ _)
  refine dot_ext hj16 (whP_16 _ _) fun x y _ hy => ?_
  rw [dot_joinF (whP_16 _ _) (whP_16 _ _) hy]
  unfold rcG
  rw [dot_whP _ hy _ (Nat.le_refl _), dot_whP _ hy _ (Nat.le_refl _), dot_whP _ hy _ (Nat.le_refl _)]
  unfold isK isC
  cases decide (x < 12) <;> simp
  cases decide (y * 12 + x < 144) <;> simp
theorem implReadCel {H : List Blk} {t : List Int} (ht : B8 t) (hl : t.length ≤ 1000000) :
    Cal Try.prog 47 [.v (.string (bstr t))] H fun u H' => u = .t [.a (rowL .u16 12 (rcF' t) ++ rowL .u16 12 (rcG' t)), .v (.int .i64 (rcC t))] ∧ H' = H := by
  have hgi := good_idx 12 t
  have hcx := cx_good (t := t)
  refine cal_fn 24 mixed Try.func47 Try.ntmps47 Try.results47 rfl rfl rfl fun hw cx hx hq => ?_
  by_cases h156 : t.length = 156
  case neg =>
    have hng : ¬ goodT 12 t := fun h => h156 (hgi.1 h).1
    have e1 : ((t.length : Int) = 156) = False := eq_false (by omega)
    rw [(rc_bad hng).1, (rc_bad hng).2.1, (rc_bad hng).2.2] at hq
    repeat (first | (simp only [go_sem, Int.reduceLT, Int.reduceLE, Int.reduceEq, Int.reduceToNat, rowL_rep, row24, bstr_size, e1]) | ((with_reducible refine And.intro ?_ ?_); omega) | ((with_reducible refine isWKr (id := 5) ?_); refine WK_drawAt 5 [[],[0],[],[0,1,2]] (by kernel_rfl) ?_) | ((with_reducible refine And.intro ?_ ?_); first | (with_reducible rfl) | assumption | (simp only [go_sem]; done)))
    refine ret_cut hq hw _ (.inl rfl) ?_
    simp [go_sem]
  have e1 : ((t.length : Int) = 156) = True := eq_true (by omega)
  have hFr : whP (isC t 35) 144 = rcF t := rfl
  by_cases hg : goodT 12 t
  · have e2 : (((bstr (cxL (rcF t) (rcG t) 156)).toList = (bstr t).toList)) = True := eq_true (by rw [hcx.2 hg])
    rw [(rc_good hg).1, (rc_good hg).2.1, (rc_good hg).2.2] at hq
    repeat (first | (simp only [go_sem, Int.reduceLT, Int.reduceLE, Int.reduceEq, Int.reduceToNat, rowL_rep, row24, bstr_size, e1, e2, joinK, hFr]) | ((with_reducible refine And.intro ?_ ?_); omega) | ((with_reducible refine isSK ?_); first | (refine call_ret (readCel1 ht (by first | exact (Go.Sx.get_at0 _ _).trans rfl | exact (Go.Sx.get_at _ _ 1).trans rfl | exact (Go.Sx.get_at _ _ 2).trans rfl | exact (Go.Sx.get_at _ _ 3).trans rfl | exact (Go.Sx.get_at _ _ 4).trans rfl | exact (Go.Sx.get_at _ _ 5).trans rfl | exact (Go.Sx.get_at _ _ 6).trans rfl | exact (Go.Sx.get_at _ _ 7).trans rfl | exact (Go.Sx.get_at _ _ 8).trans rfl | exact (Go.Sx.get_at _ _ 9).trans rfl | exact (Go.Sx.get_at _ _ 10).trans rfl | exact (Go.Sx.get_at _ _ 11).trans rfl | exact (Go.Sx.get_at _ _ 12).trans rfl | exact (Go.Sx.get_at _ _ 13).trans rfl | exact (Go.Sx.get_at _ _ 14).trans rfl | exact (Go.Sx.get_at _ _ 15).trans rfl) rfl h156) (by simp only [go_sem, Int.reduceLT, Int.reduceLE, Int.reduceEq, Int.reduceToNat, rowL_rep, row24, bstr_size, e1, e2, joinK, hFr]) ?_) | (refine call_ret (join) (by simp only [go_sem, Int.reduceLT, Int.reduceLE, Int.reduceEq, Int.reduceToNat, rowL_rep, row24, bstr_size, e1, e2, joinK, hFr]) ?_) | (refine call_ret (celText (f := rcF t) (g := rcG t) (whP_16 _ _) (whP_16 _ _)) (by simp only [go_sem, Int.reduceLT, Int.reduceLE, Int.reduceEq, Int.reduceToNat, rowL_rep, row24, bstr_size, e1, e2, joinK, hFr]) ?_)) | ((with_reducible refine isMC ?_); first | (refine mcall_ret (readCel1 ht (by first | exact (Go.Sx.get_at0 _ _).trans rfl | exact (Go.Sx.get_at _ _ 1).trans rfl | exact (Go.Sx.get_at _ _ 2).trans rfl | exact (Go.Sx.get_at _ _ 3).trans rfl | exact (Go.Sx.get_at _ _ 4).trans rfl | exact (Go.Sx.get_at _ _ 5).trans rfl | exact (Go.Sx.get_at _ _ 6).trans rfl | exact (Go.Sx.get_at _ _ 7).trans rfl | exact (Go.Sx.get_at _ _ 8).trans rfl | exact (Go.Sx.get_at _ _ 9).trans rfl | exact (Go.Sx.get_at _ _ 10).trans rfl | exact (Go.Sx.get_at _ _ 11).trans rfl | exact (Go.Sx.get_at _ _ 12).trans rfl | exact (Go.Sx.get_at _ _ 13).trans rfl | exact (Go.Sx.get_at _ _ 14).trans rfl | exact (Go.Sx.get_at _ _ 15).trans rfl) rfl h156) (by simp only [go_sem, Int.reduceLT, Int.reduceLE, Int.reduceEq, Int.reduceToNat, rowL_rep, row24, bstr_size, e1, e2, joinK, hFr]) (by simp only [go_sem, Int.reduceLT, Int.reduceLE, Int.reduceEq, Int.reduceToNat, rowL_rep, row24, bstr_size, e1, e2, joinK, hFr]) ?_) | (refine mcall_ret (join) (by simp only [go_sem, Int.reduceLT, Int.reduceLE, Int.reduceEq, Int.reduceToNat, rowL_rep, row24, bstr_size, e1, e2, joinK, hFr]) (by simp only [go_sem, Int.reduceLT, Int.reduceLE, Int.reduceEq, Int.reduceToNat, rowL_rep, row24, bstr_size, e1, e2, joinK, hFr]) ?_) | (refine mcall_ret (celText (f := rcF t) (g := rcG t) (whP_16 _ _) (whP_16 _ _)) (by simp only [go_sem, Int.reduceLT, Int.reduceLE, Int.reduceEq, Int.reduceToNat, rowL_rep, row24, bstr_size, e1, e2, joinK, hFr]) (by simp only [go_sem, Int.reduceLT, Int.reduceLE, Int.reduceEq, Int.reduceToNat, rowL_rep, row24, bstr_size, e1, e2, joinK, hFr]) ?_)) | ((with_reducible refine isWKr (id := 5) ?_); refine WK_drawAt 5 [[],[0],[],[0,1,2]] (by kernel_rfl) ?_) | ((with_reducible refine And.intro ?_ ?_); first | (with_reducible rfl) | assumption | (simp only [go_sem]; done)))
    refine ret_cut hq hw _ (.inl rfl) ?_
    simp [go_sem]
  · have e2 : (((bstr (cxL (rcF t) (rcG t) 156)).toList = (bstr t).toList)) = False := eq_false (by
      rw [str_eq]
      intro h
      exact hg (hcx.1 (bstr_inj (cxL_8 _ _ _) ht h)))
    rw [(rc_bad hg).1, (rc_bad hg).2.1, (rc_bad hg).2.2] at hq
    repeat (first | (simp only [go_sem, Int.reduceLT, Int.reduceLE, Int.reduceEq, Int.reduceToNat, rowL_rep, row24, bstr_size, e1, e2, joinK, hFr]) | ((with_reducible refine And.intro ?_ ?_); omega) | ((with_reducible refine isSK ?_); first | (refine call_ret (readCel1 ht (by first | exact (Go.Sx.get_at0 _ _).trans rfl | exact (Go.Sx.get_at _ _ 1).trans rfl | exact (Go.Sx.get_at _ _ 2).trans rfl | exact (Go.Sx.get_at _ _ 3).trans rfl | exact (Go.Sx.get_at _ _ 4).trans rfl | exact (Go.Sx.get_at _ _ 5).trans rfl | exact (Go.Sx.get_at _ _ 6).trans rfl | exact (Go.Sx.get_at _ _ 7).trans rfl | exact (Go.Sx.get_at _ _ 8).trans rfl | exact (Go.Sx.get_at _ _ 9).trans rfl | exact (Go.Sx.get_at _ _ 10).trans rfl | exact (Go.Sx.get_at _ _ 11).trans rfl | exact (Go.Sx.get_at _ _ 12).trans rfl | exact (Go.Sx.get_at _ _ 13).trans rfl | exact (Go.Sx.get_at _ _ 14).trans rfl | exact (Go.Sx.get_at _ _ 15).trans rfl) rfl h156) (by simp only [go_sem, Int.reduceLT, Int.reduceLE, Int.reduceEq, Int.reduceToNat, rowL_rep, row24, bstr_size, e1, e2, joinK, hFr]) ?_) | (refine call_ret (join) (by simp only [go_sem, Int.reduceLT, Int.reduceLE, Int.reduceEq, Int.reduceToNat, rowL_rep, row24, bstr_size, e1, e2, joinK, hFr]) ?_) | (refine call_ret (celText (f := rcF t) (g := rcG t) (whP_16 _ _) (whP_16 _ _)) (by simp only [go_sem, Int.reduceLT, Int.reduceLE, Int.reduceEq, Int.reduceToNat, rowL_rep, row24, bstr_size, e1, e2, joinK, hFr]) ?_)) | ((with_reducible refine isMC ?_); first | (refine mcall_ret (readCel1 ht (by first | exact (Go.Sx.get_at0 _ _).trans rfl | exact (Go.Sx.get_at _ _ 1).trans rfl | exact (Go.Sx.get_at _ _ 2).trans rfl | exact (Go.Sx.get_at _ _ 3).trans rfl | exact (Go.Sx.get_at _ _ 4).trans rfl | exact (Go.Sx.get_at _ _ 5).trans rfl | exact (Go.Sx.get_at _ _ 6).trans rfl | exact (Go.Sx.get_at _ _ 7).trans rfl | exact (Go.Sx.get_at _ _ 8).trans rfl | exact (Go.Sx.get_at _ _ 9).trans rfl | exact (Go.Sx.get_at _ _ 10).trans rfl | exact (Go.Sx.get_at _ _ 11).trans rfl | exact (Go.Sx.get_at _ _ 12).trans rfl | exact (Go.Sx.get_at _ _ 13).trans rfl | exact (Go.Sx.get_at _ _ 14).trans rfl | exact (Go.Sx.get_at _ _ 15).trans rfl) rfl h156) (by simp only [go_sem, Int.reduceLT, Int.reduceLE, Int.reduceEq, Int.reduceToNat, rowL_rep, row24, bstr_size, e1, e2, joinK, hFr]) (by simp only [go_sem, Int.reduceLT, Int.reduceLE, Int.reduceEq, Int.reduceToNat, rowL_rep, row24, bstr_size, e1, e2, joinK, hFr]) ?_) | (refine mcall_ret (join) (by simp only [go_sem, Int.reduceLT, Int.reduceLE, Int.reduceEq, Int.reduceToNat, rowL_rep, row24, bstr_size, e1, e2, joinK, hFr]) (by simp only [go_sem, Int.reduceLT, Int.reduceLE, Int.reduceEq, Int.reduceToNat, rowL_rep, row24, bstr_size, e1, e2, joinK, hFr]) ?_) | (refine mcall_ret (celText (f := rcF t) (g := rcG t) (whP_16 _ _) (whP_16 _ _)) (by simp only [go_sem, Int.reduceLT, Int.reduceLE, Int.reduceEq, Int.reduceToNat, rowL_rep, row24, bstr_size, e1, e2, joinK, hFr]) (by simp only [go_sem, Int.reduceLT, Int.reduceLE, Int.reduceEq, Int.reduceToNat, rowL_rep, row24, bstr_size, e1, e2, joinK, hFr]) ?_)) | ((with_reducible refine isWKr (id := 5) ?_); refine WK_drawAt 5 [[],[0],[],[0,1,2]] (by kernel_rfl) ?_) | ((with_reducible refine And.intro ?_ ?_); first | (with_reducible rfl) | assumption | (simp only [go_sem]; done)))
    refine ret_cut hq hw _ (.inl rfl) ?_
    simp [go_sem]
end Go.Proofs.Ytheeehjgmifclaa

