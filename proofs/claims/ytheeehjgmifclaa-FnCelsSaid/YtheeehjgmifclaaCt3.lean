/- Contracts of functions of the translated program, by the walk. -/
import Derived.Test.YtheeehjgmifclaaCt2
set_option linter.unusedVariables false
set_option linter.unusedSimpArgs false
set_option maxRecDepth 8000
set_option maxHeartbeats 4000000
namespace Go.Proofs.Ytheeehjgmifclaa
open Go Go.Sx
theorem dot_lessC {f g : Nat → Int} (hf : R16 f) (hg : R16 g) {x y : Nat} (hy : y < 12) : dot (lessF f g) x y = (dot f x y && !dot g x y) := by
  have a := hf y hy
  have b := hg y hy
  unfold dot lessF
  have e : bits .andNot .u16 (f y) (g y) = IntKind.u16.wrap ((BitVec.ofInt 16 (f y) &&& ~~~(BitVec.ofInt 16 (g y))).toNat : Int) := rfl
  have e2 : ∀ z : Int, 0 ≤ z → z < 65536 → (BitVec.ofInt 16 z).toNat = z.toNat := fun z h1 h2 => by
    obtain ⟨A, hA⟩ := Int.eq_ofNat_of_zero_le h1
    rw [hA, ofInt_u16 A (by omega)]; rfl
  have hlt := (BitVec.ofInt 16 (f y) &&& ~~~(BitVec.ofInt 16 (g y))).isLt
  rw [e, wrap_u16 (by omega) (by omega), Int.toNat_natCast, BitVec.testBit_toNat, BitVec.getLsbD_and, BitVec.getLsbD_not, ← BitVec.testBit_toNat, ← BitVec.testBit_toNat, e2 _ a.1 a.2, e2 _ b.1 b.2]
  by_cases hx : x < 16
  · simp [hx]
  · have hf0 : (f y).toNat.testBit x = false := by
      apply Nat.testBit_lt_two_pow
      have : (2 : Nat) ^ 16 ≤ 2 ^ x := Nat.pow_le_pow_right (by omega) (by omega)
      omega
    rw [hf0]; rfl
theorem lessC_r16 {f g : Nat → Int} : R16 (lessF f g) := fun y _ => by
  have e : lessF f g y = IntKind.u16.wrap ((BitVec.ofInt 16 (f y) &&& ~~~(BitVec.ofInt 16 (g y))).toNat : Int) := rfl
  have hlt := (BitVec.ofInt 16 (f y) &&& ~~~(BitVec.ofInt 16 (g y))).isLt
  rw [e, wrap_u16 (by omega) (by omega)]; omega
/-- The places where an o is put. -/
def putO (D : List Nat) (h : Nat → Int) : Nat → Int := D.foldl (fun h k => upd h (k / 12 * 13 + k % 12) 111) h
theorem putO_snoc (D : List Nat) (k : Nat) (h : Nat → Int) : putO (D ++ [k]) h = upd (putO D h) (k / 12 * 13 + k % 12) 111 := by unfold putO; rw [List.foldl_append]; rfl
theorem putO_at : ∀ (D : List Nat) (h : Nat → Int) (j : Nat), putO D h j = if ∃ k ∈ D, k / 12 * 13 + k % 12 = j then 111 else h j
  | [], h, j => by simp [putO]
  | a :: D, h, j => by
    have ih := putO_at D (upd h (a / 12 * 13 + a % 12) 111) j
    show putO D (upd h (a / 12 * 13 + a % 12) 111) j = _
    rw [ih]
    by_cases h1 : ∃ k ∈ D, k / 12 * 13 + k % 12 = j
    · rw [if_pos h1, if_pos (by obtain ⟨k, hk, e⟩ := h1; exact ⟨k, List.mem_cons_of_mem _ hk, e⟩)]
    · rw [if_neg h1]
      unfold upd
      by_cases h2 : j = a / 12 * 13 + a % 12
      · rw [if_pos h2, if_pos ⟨a, List.mem_cons_self .., h2.symm⟩]
      · rw [if_neg h2, if_neg]
        rintro ⟨k, hk, e⟩
        rcases List.mem_cons.1 hk with rfl | hk
        · exact h2 e.symm
        · exact h1 ⟨k, hk, e⟩
theorem putO_cel {f g : Nat → Int} (hf : R16 f) (hg : R16 g) {j : Nat} (hj : j < 156) : putO (dotsF (lessF g f)) (txB f) j = cxB f g j := by
  rw [putO_at]
  have hy : j / 13 < 12 := by omega
  unfold txB cxB
  by_cases h12 : j % 13 = 12
  · rw [if_neg, if_pos h12, if_pos h12]
    rintro ⟨k, hk, e⟩
    have := (mem_dotsF.1 hk).1
    omega
  · rw [if_neg h12, if_neg h12]
    cases hfd : dot f (j % 13) (j / 13)
    · cases hgd : dot g (j % 13) (j / 13)
      · rw [if_neg, if_neg (by simp), if_neg (by simp)]
        · simp
        · rintro ⟨k, hk, e⟩
          obtain ⟨hk1, hk2⟩ := mem_dotsF.1 hk
          have e1 : k % 12 = j % 13 := by omega
          have e2 : k / 12 = j / 13 := by omega
          rw [e1, e2, dot_lessC hg hf hy, hgd] at hk2
          simp at hk2
      · rw [if_pos, if_neg (by simp), if_pos rfl]
        refine ⟨j / 13 * 12 + j % 13, mem_dotsF.2 ⟨by omega, ?_⟩, by omega⟩
        rw [show (j / 13 * 12 + j % 13) % 12 = j % 13 by omega, show (j / 13 * 12 + j % 13) / 12 = j / 13 by omega, dot_lessC hg hf hy, hgd, hfd]; rfl
    · rw [if_neg, if_pos rfl, if_pos rfl]
      rintro ⟨k, hk, e⟩
      obtain ⟨hk1, hk2⟩ := mem_dotsF.1 hk
      have e1 : k % 12 = j % 13 := by omega
      have e2 : k / 12 = j / 13 := by omega
      rw [e1, e2, dot_lessC hg hf hy, hfd] at hk2
      simp at hk2
theorem u8s_row : ∀ (n : Nat) (h : Nat → Int), u8s (rowL .u8 n h) = some ((List.range n).map h)
  | 0, h => rfl
  | n + 1, h => by
    rw [rowL_cons]
    show (u8s (rowL .u8 n fun j => h (j + 1))).map (h 0 :: ·) = _
    rw [u8s_row n, List.range_succ_eq_map, List.map_cons, List.map_map]; rfl
theorem strC_tx (f : Nat → Int) : strC (bstr (txL f 156)) = rowL .u8 156 (txB f) := by
  rw [strC_eq, bytI_bstr (txL_8 f 156), u8C_map]
  unfold txL rowL
  rw [List.map_map]; rfl
theorem celText {H : List Blk} {f g : Nat → Int} (hf : R16 f) (hg : R16 g) : Cal Try.prog 96 [.a (rowL .u16 12 (f) ++ rowL .u16 12 (g))] H fun u H' => u = .v (.string (bstr (cxL f g 156))) ∧ H' = H := by
  have hbs : bySl Try.prog 65 = some 5 := by kernel_rfl
  have hst : strT Try.prog 9 = true := by kernel_rfl
  have hsz : (bstr (txL f 156)).size = 156 := by rw [bstr_size, txL_len]
  obtain ⟨D, hD⟩ : ∃ D, D = dotsF (lessF g f) := ⟨_, rfl⟩
  have hDl : D.length ≤ 144 := by rw [hD]; exact dotsTo_len _ _
  have hld : ∀ m, lts m (D.flatMap dotL) = True := fun m => eq_true ((lts_iff _ _).2 fun v hv => by
    obtain ⟨k, _, hk⟩ := List.mem_flatMap.1 hv
    simp only [dotL, List.mem_cons, List.mem_nil_iff, or_false] at hk
    rcases hk with rfl | rfl <;> rfl)
  refine cal_fn 33 mixed Try.func96 Try.ntmps96 Try.results96 rfl rfl rfl fun hw cx hx hq => ?_
  repeat (first | (simp only [go_sem, Int.reduceLT, Int.reduceLE, Int.reduceEq, Int.reduceToNat, hbs, hst, Try.underlying65, hsz, strC_tx, ← hD]) | ((with_reducible refine And.intro ?_ ?_); omega) | ((with_reducible refine isSK ?_); first | (refine call_ret (frameText hf) (by simp only [go_sem, Int.reduceLT, Int.reduceLE, Int.reduceEq, Int.reduceToNat, hbs, hst, Try.underlying65, hsz, strC_tx, ← hD]) ?_) | (refine call_ret (less) (by simp only [go_sem, Int.reduceLT, Int.reduceLE, Int.reduceEq, Int.reduceToNat, hbs, hst, Try.underlying65, hsz, strC_tx, ← hD]) ?_) | (refine call_ret (dots lessC_r16) (by simp only [go_sem, Int.reduceLT, Int.reduceLE, Int.reduceEq, Int.reduceToNat, hbs, hst, Try.underlying65, hsz, strC_tx, ← hD]) ?_)) | ((with_reducible refine isMC ?_); first | (refine mcall_ret (frameText hf) (by simp only [go_sem, Int.reduceLT, Int.reduceLE, Int.reduceEq, Int.reduceToNat, hbs, hst, Try.underlying65, hsz, strC_tx, ← hD]) (by simp only [go_sem, Int.reduceLT, Int.reduceLE, Int.reduceEq, Int.reduceToNat, hbs, hst, Try.underlying65, hsz, strC_tx, ← hD]) ?_) | (refine mcall_ret (less) (by simp only [go_sem, Int.reduceLT, Int.reduceLE, Int.reduceEq, Int.reduceToNat, hbs, hst, Try.underlying65, hsz, strC_tx, ← hD]) (by simp only [go_sem, Int.reduceLT, Int.reduceLE, Int.reduceEq, Int.reduceToNat, hbs, hst, Try.underlying65, hsz, strC_tx, ← hD]) ?_) | (refine mcall_ret (dots lessC_r16) (by simp only [go_sem, Int.reduceLT, Int.reduceLE, Int.reduceEq, Int.reduceToNat, hbs, hst, Try.underlying65, hsz, strC_tx, ← hD]) (by simp only [go_sem, Int.reduceLT, Int.reduceLE, Int.reduceEq, Int.reduceToNat, hbs, hst, Try.underlying65, hsz, strC_tx, ← hD]) ?_)) | ((with_reducible refine And.intro ?_ ?_); first | (with_reducible rfl) | assumption | (simp only [go_sem]; done)))
  refine WK_for (fun c : Nat => ⟨[.any, .p H.length 0, .any, .s (H.length + 1) 0 156 .w, .any, .any, .any, .any, .any, .any, .any, .any, .any, .any, .any, .s (H.length + 2) 0 D.length (.u 0), .v (.int .i64 D.length), .v (.int .i64 c)] ++ junk 16, H ++ [⟨rowL .u16 12 (f) ++ rowL .u16 12 (g), 42, .fix⟩, ⟨rowL .u8 156 (putO (D.take c) (txB f)), 5, .byt⟩, ⟨D.flatMap dotL, 148, .own 2⟩]⟩) (fun c => c ≤ D.length) (fun c => D.length - c) 0 (Weak.slots ?_) (Nat.zero_le _) fun c hcc => ?_
  · simp [go_sem]
  rcases Int.lt_or_le (c : Int) D.length with hc | hc
  · have hj : c < D.length := by omega
    have hci : ((c : Int) < (D.length : Int)) = True := eq_true hc
    have hed := elem_dots hj
    have hfd := flat_len dotL 2 dotL_len D
    have hk144 : D[c] < 144 := by
      have h1 : D[c] ∈ dotsF (lessF g f) := by rw [← hD]; exact List.getElem_mem hj
      exact (mem_dotsF.1 h1).1
    have hts := List.take_succ_eq_append_getElem hj
    have hsg := flat_seg dotL 2 dotL_len D c hj
    generalize D[c] = k at hed hk144 hts hsg
    have hwr := rowL_wr .u8 156 (putO (D.take c) (txB f)) (j := k / 12 * 13 + k % 12) (by omega) 111
    rw [← putO_snoc, ← hts] at hwr
    have tk : (((k / 12 : Nat) : Int) * 13 + ((k % 12 : Nat) : Int)).toNat = k / 12 * 13 + k % 12 := by omega
    repeat (first | (simp only [go_sem, Int.reduceLT, Int.reduceLE, Int.reduceEq, Int.reduceToNat, hci, hed.1, hed.2, hfd, hsg, hwr, tk, dotL]) | ((with_reducible refine And.intro ?_ ?_); omega) | ((with_reducible refine And.intro ?_ ?_); first | (with_reducible rfl) | assumption | (simp only [go_sem]; done)))
    refine EK_again (c + 1) ?_ (by omega) (by omega)
    exact Weak.keepN rfl (by simp [go_sem] <;> omega) (by simp [hx]) (by simp [go_sem, hld] <;> omega) (hw.app (by simp [go_sem, hld] <;> omega))
  · have : c = D.length := by omega
    subst this
    have hci : ((D.length : Int) < (D.length : Int)) = False := eq_false (by omega)
    have hfin : (List.range 156).map (putO D (txB f)) = cxL f g 156 := by
      unfold cxL
      apply List.map_congr_left
      intro j hj
      rw [hD]
      exact putO_cel hf hg (List.mem_range.1 hj)
    have hfin2 : u8s (rowL .u8 156 (putO D (txB f))) = some (cxL f g 156) := by rw [u8s_row, hfin]
    rw [List.take_length]
    repeat (first | (simp only [go_sem, Int.reduceLT, Int.reduceLE, Int.reduceEq, Int.reduceToNat, hci, hbs, hst, hfin2]) | ((with_reducible refine And.intro ?_ ?_); omega) | ((with_reducible refine And.intro ?_ ?_); first | (with_reducible rfl) | assumption | (simp only [go_sem]; done)))
    refine ret_cut hq hw _ (.inl rfl) ?_
    simp [go_sem]
end Go.Proofs.Ytheeehjgmifclaa

