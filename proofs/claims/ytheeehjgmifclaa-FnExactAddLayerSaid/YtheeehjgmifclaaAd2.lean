/- Contracts of functions of the translated program, by the walk. -/
import Derived.Test.YtheeehjgmifclaaAd1
set_option linter.unusedVariables false
set_option linter.unusedSimpArgs false
set_option maxRecDepth 8000
set_option maxHeartbeats 4000000
namespace Go.Proofs.Ytheeehjgmifclaa
open Go Go.Sx
def adC (l : List (Nat → Int)) (a : Nat → Int) : Int := if (okS l && okL a) = true then (if l.length = 8 then 3 else 0) else 1
theorem adC_ok {l : List (Nat → Int)} {a : Nat → Int} (h : adC l a = 0) : okS l = true ∧ okL a = true ∧ l.length ≠ 8 := by
  unfold adC at h
  split at h
  · rename_i h1
    rw [Bool.and_eq_true] at h1
    split at h
    · cases h
    · rename_i h2; exact ⟨h1.1, h1.2, h2⟩
  · cases h
theorem okS_len {l : List (Nat → Int)} (h : okS l = true) : l.length ≤ 8 := by unfold okS at h; simp at h; omega
theorem implAddLayer_err {H : List Blk} {v : V} {l : List (Nat → Int)} {a : Nat → Int} (h : Rd H v encL l) (hly : ∀ a ∈ l, LyW a) (hla : LyW a) (hl : l.length ≤ 1000000) (hc : adC l a ≠ 0) :
    Cal Try.prog 25 [v, .a (encL a)] H fun u H' => u = .t [.v (.slice none 0 0), .v (.int .i64 (adC l a))] ∧ H' = H := by
  have hsol := h.solid
  have hL := h.lenV (P := Try.prog) slTy25
  have h0 : ∀ L, Rd (H ++ L) v encL l := fun L => h.app
  refine cal_fn 22 mixed Try.func25 Try.ntmps25 Try.results25 rfl rfl rfl fun hw cx hx hq => ?_
  cases e1 : okS l
  · have hC : adC l a = 1 := by unfold adC; rw [e1]; rfl
    repeat (first | (simp only [go_sem, Int.reduceLT, Int.reduceLE, Int.reduceEq, Int.reduceToNat, hsol, hL, e1, encL_len]) | ((with_reducible refine And.intro ?_ ?_); omega) | ((with_reducible refine isSK ?_); first | (refine call_ret (validScene (h0 _) (by omega) hly) (by simp only [go_sem, Int.reduceLT, Int.reduceLE, Int.reduceEq, Int.reduceToNat, hsol, hL, e1, encL_len]) ?_) | (refine call_ret (isLayer hla) (by simp only [go_sem, Int.reduceLT, Int.reduceLE, Int.reduceEq, Int.reduceToNat, hsol, hL, e1, encL_len]) ?_)) | ((with_reducible refine isMC ?_); first | (refine mcall_ret (validScene (h0 _) (by omega) hly) (by simp only [go_sem, Int.reduceLT, Int.reduceLE, Int.reduceEq, Int.reduceToNat, hsol, hL, e1, encL_len]) (by simp only [go_sem, Int.reduceLT, Int.reduceLE, Int.reduceEq, Int.reduceToNat, hsol, hL, e1, encL_len]) ?_) | (refine mcall_ret (isLayer hla) (by simp only [go_sem, Int.reduceLT, Int.reduceLE, Int.reduceEq, Int.reduceToNat, hsol, hL, e1, encL_len]) (by simp only [go_sem, Int.reduceLT, Int.reduceLE, Int.reduceEq, Int.reduceToNat, hsol, hL, e1, encL_len]) ?_)) | ((with_reducible refine And.intro ?_ ?_); first | (with_reducible rfl) | assumption | (simp only [go_sem]; done)))
    refine ret_cut hq hw _ (.inl rfl) ?_
    simp [go_sem, hC]
  cases e2 : okL a
  · have hC : adC l a = 1 := by unfold adC; rw [e1, e2]; rfl
    repeat (first | (simp only [go_sem, Int.reduceLT, Int.reduceLE, Int.reduceEq, Int.reduceToNat, hsol, hL, e1, e2, encL_len]) | ((with_reducible refine And.intro ?_ ?_); omega) | ((with_reducible refine isSK ?_); first | (refine call_ret (validScene (h0 _) (by omega) hly) (by simp only [go_sem, Int.reduceLT, Int.reduceLE, Int.reduceEq, Int.reduceToNat, hsol, hL, e1, e2, encL_len]) ?_) | (refine call_ret (isLayer hla) (by simp only [go_sem, Int.reduceLT, Int.reduceLE, Int.reduceEq, Int.reduceToNat, hsol, hL, e1, e2, encL_len]) ?_)) | ((with_reducible refine isMC ?_); first | (refine mcall_ret (validScene (h0 _) (by omega) hly) (by simp only [go_sem, Int.reduceLT, Int.reduceLE, Int.reduceEq, Int.reduceToNat, hsol, hL, e1, e2, encL_len]) (by simp only [go_sem, Int.reduceLT, Int.reduceLE, Int.reduceEq, Int.reduceToNat, hsol, hL, e1, e2, encL_len]) ?_) | (refine mcall_ret (isLayer hla) (by simp only [go_sem, Int.reduceLT, Int.reduceLE, Int.reduceEq, Int.reduceToNat, hsol, hL, e1, e2, encL_len]) (by simp only [go_sem, Int.reduceLT, Int.reduceLE, Int.reduceEq, Int.reduceToNat, hsol, hL, e1, e2, encL_len]) ?_)) | ((with_reducible refine And.intro ?_ ?_); first | (with_reducible rfl) | assumption | (simp only [go_sem]; done)))
    refine ret_cut hq hw _ (.inl rfl) ?_
    simp [go_sem, hC]
  by_cases e3 : l.length = 8
  · have hC : adC l a = 3 := by unfold adC; rw [e1, e2, if_pos e3]; rfl
    have b3 : ((l.length : Int) = 8) = True := eq_true (by omega)
    repeat (first | (simp only [go_sem, Int.reduceLT, Int.reduceLE, Int.reduceEq, Int.reduceToNat, hsol, hL, e1, e2, b3, encL_len]) | ((with_reducible refine And.intro ?_ ?_); omega) | ((with_reducible refine isSK ?_); first | (refine call_ret (validScene (h0 _) (by omega) hly) (by simp only [go_sem, Int.reduceLT, Int.reduceLE, Int.reduceEq, Int.reduceToNat, hsol, hL, e1, e2, b3, encL_len]) ?_) | (refine call_ret (isLayer hla) (by simp only [go_sem, Int.reduceLT, Int.reduceLE, Int.reduceEq, Int.reduceToNat, hsol, hL, e1, e2, b3, encL_len]) ?_)) | ((with_reducible refine isMC ?_); first | (refine mcall_ret (validScene (h0 _) (by omega) hly) (by simp only [go_sem, Int.reduceLT, Int.reduceLE, Int.reduceEq, Int.reduceToNat, hsol, hL, e1, e2, b3, encL_len]) (by simp only [go_sem, Int.reduceLT, Int.reduceLE, Int.reduceEq, Int.reduceToNat, hsol, hL, e1, e2, b3, encL_len]) ?_) | (refine mcall_ret (isLayer hla) (by simp only [go_sem, Int.reduceLT, Int.reduceLE, Int.reduceEq, Int.reduceToNat, hsol, hL, e1, e2, b3, encL_len]) (by simp only [go_sem, Int.reduceLT, Int.reduceLE, Int.reduceEq, Int.reduceToNat, hsol, hL, e1, e2, b3, encL_len]) ?_)) | ((with_reducible refine And.intro ?_ ?_); first | (with_reducible rfl) | assumption | (simp only [go_sem]; done)))
    refine ret_cut hq hw _ (.inl rfl) ?_
    simp [go_sem, hC]
  · exact absurd (by unfold adC; rw [e1, e2, if_neg e3]; rfl) hc
theorem specAddLayer_err {H : List Blk} {v : V} {l : List (Nat → Int)} {a : Nat → Int} (h : Rd H v encL l) (hly : ∀ a ∈ l, LyW a) (hla : LyW a) (hl : l.length ≤ 1000000) (hc : adC l a ≠ 0) :
    Cal Try.prog 23 [v, .a (encL a)] H fun u H' => u = .t [.s H.length 0 0 (.u 0), .v (.int .i64 (adC l a))] ∧ H' = H ++ [⟨[], 44, .own 27⟩] := by
  have hsol := h.solid
  have hL := h.lenV (P := Try.prog) slTy25
  have h0 : ∀ L, Rd (H ++ L) v encL l := fun L => h.app
  refine cal_fn 20 mixed Try.func23 Try.ntmps23 Try.results23 rfl rfl rfl fun hw cx hx hq => ?_
  cases e1 : okS l
  · have hC : adC l a = 1 := by unfold adC; rw [e1]; rfl
    repeat (first | (simp only [go_sem, Int.reduceLT, Int.reduceLE, Int.reduceEq, Int.reduceToNat, hsol, hL, e1, encL_len]) | ((with_reducible refine And.intro ?_ ?_); omega) | ((with_reducible refine isSK ?_); first | (refine call_ret (l05Ok (h0 _) (by omega) hly) (by simp only [go_sem, Int.reduceLT, Int.reduceLE, Int.reduceEq, Int.reduceToNat, hsol, hL, e1, encL_len]) ?_) | (refine call_ret (l05Layer (a := a) (by first | exact At.mk0 rfl | exact At.mk' 1 rfl rfl | exact At.mk' 2 rfl rfl | exact At.mk' 3 rfl rfl | exact At.mk' 4 rfl rfl | exact At.mk' 5 rfl rfl | exact At.mk' 6 rfl rfl | exact At.mk' 7 rfl rfl | exact At.mk' 8 rfl rfl | exact At.mk' 9 rfl rfl | exact At.mk' 10 rfl rfl | exact At.mk' 11 rfl rfl) hla) (by simp only [go_sem, Int.reduceLT, Int.reduceLE, Int.reduceEq, Int.reduceToNat, hsol, hL, e1, encL_len]) ?_)) | ((with_reducible refine isMC ?_); first | (refine mcall_ret (l05Ok (h0 _) (by omega) hly) (by simp only [go_sem, Int.reduceLT, Int.reduceLE, Int.reduceEq, Int.reduceToNat, hsol, hL, e1, encL_len]) (by simp only [go_sem, Int.reduceLT, Int.reduceLE, Int.reduceEq, Int.reduceToNat, hsol, hL, e1, encL_len]) ?_) | (refine mcall_ret (l05Layer (a := a) (by first | exact At.mk0 rfl | exact At.mk' 1 rfl rfl | exact At.mk' 2 rfl rfl | exact At.mk' 3 rfl rfl | exact At.mk' 4 rfl rfl | exact At.mk' 5 rfl rfl | exact At.mk' 6 rfl rfl | exact At.mk' 7 rfl rfl | exact At.mk' 8 rfl rfl | exact At.mk' 9 rfl rfl | exact At.mk' 10 rfl rfl | exact At.mk' 11 rfl rfl) hla) (by simp only [go_sem, Int.reduceLT, Int.reduceLE, Int.reduceEq, Int.reduceToNat, hsol, hL, e1, encL_len]) (by simp only [go_sem, Int.reduceLT, Int.reduceLE, Int.reduceEq, Int.reduceToNat, hsol, hL, e1, encL_len]) ?_)) | ((with_reducible refine And.intro ?_ ?_); first | (with_reducible rfl) | assumption | (simp only [go_sem]; done)))
    refine ret_one hq hw _ (.inl rfl) 1 rfl (by simp [go_sem]) (.t [.s H.length 0 0 (.u 0), .v (.int .i64 1)]) (by simp [go_sem]) ?_
    simp [go_sem, conc, concs, upσ, Cap.val, hC]
  cases e2 : okL a
  · have hC : adC l a = 1 := by unfold adC; rw [e1, e2]; rfl
    repeat (first | (simp only [go_sem, Int.reduceLT, Int.reduceLE, Int.reduceEq, Int.reduceToNat, hsol, hL, e1, e2, encL_len]) | ((with_reducible refine And.intro ?_ ?_); omega) | ((with_reducible refine isSK ?_); first | (refine call_ret (l05Ok (h0 _) (by omega) hly) (by simp only [go_sem, Int.reduceLT, Int.reduceLE, Int.reduceEq, Int.reduceToNat, hsol, hL, e1, e2, encL_len]) ?_) | (refine call_ret (l05Layer (a := a) (by first | exact At.mk0 rfl | exact At.mk' 1 rfl rfl | exact At.mk' 2 rfl rfl | exact At.mk' 3 rfl rfl | exact At.mk' 4 rfl rfl | exact At.mk' 5 rfl rfl | exact At.mk' 6 rfl rfl | exact At.mk' 7 rfl rfl | exact At.mk' 8 rfl rfl | exact At.mk' 9 rfl rfl | exact At.mk' 10 rfl rfl | exact At.mk' 11 rfl rfl) hla) (by simp only [go_sem, Int.reduceLT, Int.reduceLE, Int.reduceEq, Int.reduceToNat, hsol, hL, e1, e2, encL_len]) ?_)) | ((with_reducible refine isMC ?_); first | (refine mcall_ret (l05Ok (h0 _) (by omega) hly) (by simp only [go_sem, Int.reduceLT, Int.reduceLE, Int.reduceEq, Int.reduceToNat, hsol, hL, e1, e2, encL_len]) (by simp only [go_sem, Int.reduceLT, Int.reduceLE, Int.reduceEq, Int.reduceToNat, hsol, hL, e1, e2, encL_len]) ?_) | (refine mcall_ret (l05Layer (a := a) (by first | exact At.mk0 rfl | exact At.mk' 1 rfl rfl | exact At.mk' 2 rfl rfl | exact At.mk' 3 rfl rfl | exact At.mk' 4 rfl rfl | exact At.mk' 5 rfl rfl | exact At.mk' 6 rfl rfl | exact At.mk' 7 rfl rfl | exact At.mk' 8 rfl rfl | exact At.mk' 9 rfl rfl | exact At.mk' 10 rfl rfl | exact At.mk' 11 rfl rfl) hla) (by simp only [go_sem, Int.reduceLT, Int.reduceLE, Int.reduceEq, Int.reduceToNat, hsol, hL, e1, e2, encL_len]) (by simp only [go_sem, Int.reduceLT, Int.reduceLE, Int.reduceEq, Int.reduceToNat, hsol, hL, e1, e2, encL_len]) ?_)) | ((with_reducible refine And.intro ?_ ?_); first | (with_reducible rfl) | assumption | (simp only [go_sem]; done)))
    refine ret_one hq hw _ (.inl rfl) 1 rfl (by simp [go_sem]) (.t [.s H.length 0 0 (.u 0), .v (.int .i64 1)]) (by simp [go_sem]) ?_
    simp [go_sem, conc, concs, upσ, Cap.val, hC]
  by_cases e3 : l.length = 8
  · have hC : adC l a = 3 := by unfold adC; rw [e1, e2, if_pos e3]; rfl
    have b3 : ((l.length : Int) = 8) = True := eq_true (by omega)
    repeat (first | (simp only [go_sem, Int.reduceLT, Int.reduceLE, Int.reduceEq, Int.reduceToNat, hsol, hL, e1, e2, b3, encL_len]) | ((with_reducible refine And.intro ?_ ?_); omega) | ((with_reducible refine isSK ?_); first | (refine call_ret (l05Ok (h0 _) (by omega) hly) (by simp only [go_sem, Int.reduceLT, Int.reduceLE, Int.reduceEq, Int.reduceToNat, hsol, hL, e1, e2, b3, encL_len]) ?_) | (refine call_ret (l05Layer (a := a) (by first | exact At.mk0 rfl | exact At.mk' 1 rfl rfl | exact At.mk' 2 rfl rfl | exact At.mk' 3 rfl rfl | exact At.mk' 4 rfl rfl | exact At.mk' 5 rfl rfl | exact At.mk' 6 rfl rfl | exact At.mk' 7 rfl rfl | exact At.mk' 8 rfl rfl | exact At.mk' 9 rfl rfl | exact At.mk' 10 rfl rfl | exact At.mk' 11 rfl rfl) hla) (by simp only [go_sem, Int.reduceLT, Int.reduceLE, Int.reduceEq, Int.reduceToNat, hsol, hL, e1, e2, b3, encL_len]) ?_)) | ((with_reducible refine isMC ?_); first | (refine mcall_ret (l05Ok (h0 _) (by omega) hly) (by simp only [go_sem, Int.reduceLT, Int.reduceLE, Int.reduceEq, Int.reduceToNat, hsol, hL, e1, e2, b3, encL_len]) (by simp only [go_sem, Int.reduceLT, Int.reduceLE, Int.reduceEq, Int.reduceToNat, hsol, hL, e1, e2, b3, encL_len]) ?_) | (refine mcall_ret (l05Layer (a := a) (by first | exact At.mk0 rfl | exact At.mk' 1 rfl rfl | exact At.mk' 2 rfl rfl | exact At.mk' 3 rfl rfl | exact At.mk' 4 rfl rfl | exact At.mk' 5 rfl rfl | exact At.mk' 6 rfl rfl | exact At.mk' 7 rfl rfl | exact At.mk' 8 rfl rfl | exact At.mk' 9 rfl rfl | exact At.mk' 10 rfl rfl | exact At.mk' 11 rfl rfl) hla) (by simp only [go_sem, Int.reduceLT, Int.reduceLE, Int.reduceEq, Int.reduceToNat, hsol, hL, e1, e2, b3, encL_len]) (by simp only [go_sem, Int.reduceLT, Int.reduceLE, Int.reduceEq, Int.reduceToNat, hsol, hL, e1, e2, b3, encL_len]) ?_)) | ((with_reducible refine And.intro ?_ ?_); first | (with_reducible rfl) | assumption | (simp only [go_sem]; done)))
    refine ret_one hq hw _ (.inl rfl) 1 rfl (by simp [go_sem]) (.t [.s H.length 0 0 (.u 0), .v (.int .i64 3)]) (by simp [go_sem]) ?_
    simp [go_sem, conc, concs, upσ, Cap.val, hC]
  · exact absurd (by unfold adC; rw [e1, e2, if_neg e3]; rfl) hc
theorem implAddLayer_ok {H : List Blk} {v : V} {l : List (Nat → Int)} {a : Nat → Int} (h : Rd H v encL l) (hly : ∀ a ∈ l, LyW a) (hla : LyW a) (hl : l.length ≤ 1000000) (hc : adC l a = 0) :
    Cal Try.prog 25 [v, .a (encL a)] H fun u H' => u = .t [.s H.length 0 (a :: l).length (.i 0), .v (.int .i64 0)] ∧ H' = H ++ [⟨(a :: l).flatMap encL, 44, .own 27⟩] := by
  have hsol := h.solid
  have hL := h.lenV (P := Try.prog) slTy25
  have h0 : ∀ L, Rd (H ++ L) v encL l := fun L => h.app
  obtain ⟨e1, e2, e3⟩ := adC_ok hc
  have hl8 := okS_len e1
  have b3 : ((l.length : Int) = 8) = False := eq_false (by omega)
  have sL : seg (encL a) 0 27 = encL a := by
    unfold seg; rw [List.drop_zero]; exact List.take_of_length_le (by rw [encL_len]; omega)
  have hrd1 : ∀ b0 L' c, Rd (H ++ (b0 :: ⟨encL a, 44, .own 27⟩ :: L')) (.s (H.length + 1) 0 1 c) encL [a] := fun b0 L' c =>
    .inr ⟨_, 0, c, ⟨encL a, 44, .own 27⟩, rfl, ⟨(Go.Sx.get_at _ _ 1).trans rfl, rfl, by
      show seg (encL a) 0 _ = _
      rw [List.flatMap_cons, List.flatMap_nil, List.append_nil, encL_len]; exact sL⟩, by simp⟩
  have hcl : cellsL v = [v] := by
    rcases h with ⟨rfl, _⟩ | ⟨i, off, c, b, rfl, _⟩ <;> rfl
  refine cal_fn 22 mixed Try.func25 Try.ntmps25 Try.results25 rfl rfl rfl fun hw cx hx hq => ?_
  repeat (first | (simp only [go_sem, Int.reduceLT, Int.reduceLE, Int.reduceEq, Int.reduceToNat, hsol, hL, hcl, e1, e2, b3, sL, encL_len]) | ((with_reducible refine And.intro ?_ ?_); omega) | ((with_reducible refine isSK ?_); first | (refine call_ret (validScene (h0 _) (by omega) hly) (by simp only [go_sem, Int.reduceLT, Int.reduceLE, Int.reduceEq, Int.reduceToNat, hsol, hL, hcl, e1, e2, b3, sL, encL_len]) ?_) | (refine call_ret (isLayer hla) (by simp only [go_sem, Int.reduceLT, Int.reduceLE, Int.reduceEq, Int.reduceToNat, hsol, hL, hcl, e1, e2, b3, sL, encL_len]) ?_) | (refine call_ret (scConcat (la := [a]) (lb := l) (by first | exact (Go.Sx.get_at0 _ _).trans rfl | exact (Go.Sx.get_at _ _ 1).trans rfl | exact (Go.Sx.get_at _ _ 2).trans rfl | exact (Go.Sx.get_at _ _ 3).trans rfl | exact (Go.Sx.get_at _ _ 4).trans rfl | exact (Go.Sx.get_at _ _ 5).trans rfl | exact (Go.Sx.get_at _ _ 6).trans rfl | exact (Go.Sx.get_at _ _ 7).trans rfl | exact (Go.Sx.get_at _ _ 8).trans rfl | exact (Go.Sx.get_at _ _ 9).trans rfl | exact (Go.Sx.get_at _ _ 10).trans rfl | exact (Go.Sx.get_at _ _ 11).trans rfl) (by rfl) (hrd1 _ _ _) (h0 _) (by simp) (by simp) (by omega)) (by simp only [go_sem, Int.reduceLT, Int.reduceLE, Int.reduceEq, Int.reduceToNat, hsol, hL, hcl, e1, e2, b3, sL, encL_len]) ?_)) | ((with_reducible refine isMC ?_); first | (refine mcall_ret (validScene (h0 _) (by omega) hly) (by simp only [go_sem, Int.reduceLT, Int.reduceLE, Int.reduceEq, Int.reduceToNat, hsol, hL, hcl, e1, e2, b3, sL, encL_len]) (by simp only [go_sem, Int.reduceLT, Int.reduceLE, Int.reduceEq, Int.reduceToNat, hsol, hL, hcl, e1, e2, b3, sL, encL_len]) ?_) | (refine mcall_ret (isLayer hla) (by simp only [go_sem, Int.reduceLT, Int.reduceLE, Int.reduceEq, Int.reduceToNat, hsol, hL, hcl, e1, e2, b3, sL, encL_len]) (by simp only [go_sem, Int.reduceLT, Int.reduceLE, Int.reduceEq, Int.reduceToNat, hsol, hL, hcl, e1, e2, b3, sL, encL_len]) ?_) | (refine mcall_ret (scConcat (la := [a]) (lb := l) (by first | exact (Go.Sx.get_at0 _ _).trans rfl | exact (Go.Sx.get_at _ _ 1).trans rfl | exact (Go.Sx.get_at _ _ 2).trans rfl | exact (Go.Sx.get_at _ _ 3).trans rfl | exact (Go.Sx.get_at _ _ 4).trans rfl | exact (Go.Sx.get_at _ _ 5).trans rfl | exact (Go.Sx.get_at _ _ 6).trans rfl | exact (Go.Sx.get_at _ _ 7).trans rfl | exact (Go.Sx.get_at _ _ 8).trans rfl | exact (Go.Sx.get_at _ _ 9).trans rfl | exact (Go.Sx.get_at _ _ 10).trans rfl | exact (Go.Sx.get_at _ _ 11).trans rfl) (by rfl) (hrd1 _ _ _) (h0 _) (by simp) (by simp) (by omega)) (by simp only [go_sem, Int.reduceLT, Int.reduceLE, Int.reduceEq, Int.reduceToNat, hsol, hL, hcl, e1, e2, b3, sL, encL_len]) (by simp only [go_sem, Int.reduceLT, Int.reduceLE, Int.reduceEq, Int.reduceToNat, hsol, hL, hcl, e1, e2, b3, sL, encL_len]) ?_)) | ((with_reducible refine And.intro ?_ ?_); first | (with_reducible rfl) | assumption | (simp only [go_sem]; done)))
  refine ret_one hq hw _ (.inl rfl) 3 rfl (of_eq_true (flat_encL.lts _ _)) (.t [.s H.length 0 (a :: l).length (.i 0), .v (.int .i64 0)]) (by simp [go_sem]) ?_
  simp [go_sem, conc, concs, upσ, Cap.val] <;> (intros; omega)
theorem specAddLayer_ok {H : List Blk} {v : V} {l : List (Nat → Int)} {a : Nat → Int} (h : Rd H v encL l) (hly : ∀ a ∈ l, LyW a) (hla : LyW a) (hl : l.length ≤ 1000000) (hc : adC l a = 0) :
    Cal Try.prog 23 [v, .a (encL a)] H fun u H' => u = .t [.s H.length 0 (a :: l).length (.u 0), .v (.int .i64 0)] ∧ H' = H ++ [⟨(a :: l).flatMap encL, 44, .own 27⟩] := by
  have hsol := h.solid
  have hL := h.lenV (P := Try.prog) slTy25
  have h0 : ∀ L, Rd (H ++ L) v encL l := fun L => h.app
  obtain ⟨e1, e2, e3⟩ := adC_ok hc
  have hl8 := okS_len e1
  have b3 : ((l.length : Int) = 8) = False := eq_false (by omega)
  have sL : seg (encL a) 0 27 = encL a := by
    unfold seg; rw [List.drop_zero]; exact List.take_of_length_le (by rw [encL_len]; omega)
  refine cal_fn 20 mixed Try.func23 Try.ntmps23 Try.results23 rfl rfl rfl fun hw cx hx hq => ?_
  have hn1 : norefH (H.length + 1) H := norefH_wf hw (by omega)
  have hn2 : norefs (H.length + 1) (encL a) = true := by
    have := flat_encL.norefs (H.length + 1) [a]; simpa using this
  have hd1 : (H.length = H.length + 1) = False := eq_false (by omega)
  rcases h with ⟨rfl, rfl⟩ | ⟨i, off, c, b, rfl, hat, hfit⟩
  · have z8 : (((0 : Nat) : Int) = 8) = False := eq_false (by omega)
    repeat (first | (simp only [go_sem, Int.reduceLT, Int.reduceLE, Int.reduceEq, Int.reduceToNat, hsol, hL, e1, e2, b3, z8, sL, encL_len, hn1, hn2, hd1, hx]) | ((with_reducible refine And.intro ?_ ?_); omega) | ((with_reducible refine isSK ?_); first | (refine call_ret (l05Ok (h0 _) (by omega) hly) (by simp only [go_sem, Int.reduceLT, Int.reduceLE, Int.reduceEq, Int.reduceToNat, hsol, hL, e1, e2, b3, z8, sL, encL_len, hn1, hn2, hd1, hx]) ?_) | (refine call_ret (l05Layer (a := a) (by first | exact At.mk0 rfl | exact At.mk' 1 rfl rfl | exact At.mk' 2 rfl rfl | exact At.mk' 3 rfl rfl | exact At.mk' 4 rfl rfl | exact At.mk' 5 rfl rfl | exact At.mk' 6 rfl rfl | exact At.mk' 7 rfl rfl | exact At.mk' 8 rfl rfl | exact At.mk' 9 rfl rfl | exact At.mk' 10 rfl rfl | exact At.mk' 11 rfl rfl) hla) (by simp only [go_sem, Int.reduceLT, Int.reduceLE, Int.reduceEq, Int.reduceToNat, hsol, hL, e1, e2, b3, z8, sL, encL_len, hn1, hn2, hd1, hx]) ?_)) | ((with_reducible refine isMC ?_); first | (refine mcall_ret (l05Ok (h0 _) (by omega) hly) (by simp only [go_sem, Int.reduceLT, Int.reduceLE, Int.reduceEq, Int.reduceToNat, hsol, hL, e1, e2, b3, z8, sL, encL_len, hn1, hn2, hd1, hx]) (by simp only [go_sem, Int.reduceLT, Int.reduceLE, Int.reduceEq, Int.reduceToNat, hsol, hL, e1, e2, b3, z8, sL, encL_len, hn1, hn2, hd1, hx]) ?_) | (refine mcall_ret (l05Layer (a := a) (by first | exact At.mk0 rfl | exact At.mk' 1 rfl rfl | exact At.mk' 2 rfl rfl | exact At.mk' 3 rfl rfl | exact At.mk' 4 rfl rfl | exact At.mk' 5 rfl rfl | exact At.mk' 6 rfl rfl | exact At.mk' 7 rfl rfl | exact At.mk' 8 rfl rfl | exact At.mk' 9 rfl rfl | exact At.mk' 10 rfl rfl | exact At.mk' 11 rfl rfl) hla) (by simp only [go_sem, Int.reduceLT, Int.reduceLE, Int.reduceEq, Int.reduceToNat, hsol, hL, e1, e2, b3, z8, sL, encL_len, hn1, hn2, hd1, hx]) (by simp only [go_sem, Int.reduceLT, Int.reduceLE, Int.reduceEq, Int.reduceToNat, hsol, hL, e1, e2, b3, z8, sL, encL_len, hn1, hn2, hd1, hx]) ?_)) | ((with_reducible refine And.intro ?_ ?_); first | (with_reducible rfl) | assumption | (simp only [go_sem]; done)))
    have hlts : lts H.length (encL a) = True := by have := flat_encL.lts H.length [a]; rwa [List.flatMap_cons, List.flatMap_nil, List.append_nil] at this
    refine ret_one hq hw _ (.inl rfl) 1 rfl (of_eq_true hlts) (.t [.s H.length 0 1 (.u 0), .v (.int .i64 0)]) (by simp [go_sem]) ?_
    simp [go_sem, conc, concs, upσ, Cap.val]
  · have hlt := hat.lt
    have g2 : ∀ L : List Blk, (H ++ L)[i]? = some b := fun L => get_app hat.get
    have hsg : seg b.cells off (l.length * 27) = l.flatMap encL := by have := hat.sg; rwa [flat_encL.flen] at this
    have hfl := flat_encL.flen l
    have hn3 : norefs (H.length + 1) (l.flatMap encL) = true := flat_encL.norefs _ _
    have hd : (i = H.length + 1) = False := eq_false (by omega)
    have hd2 : (i = H.length) = False := eq_false (by omega)
    rw [flat_encL.flen] at hfit
    repeat (first | (simp only [go_sem, Int.reduceLT, Int.reduceLE, Int.reduceEq, Int.reduceToNat, hsol, hL, e1, e2, b3, sL, encL_len, hn1, hn2, hn3, hd1, hd, hd2, hx, g2, hat.live, hlt, hsg, hfl]) | ((with_reducible refine And.intro ?_ ?_); omega) | ((with_reducible refine isSK ?_); first | (refine call_ret (l05Ok (h0 _) (by omega) hly) (by simp only [go_sem, Int.reduceLT, Int.reduceLE, Int.reduceEq, Int.reduceToNat, hsol, hL, e1, e2, b3, sL, encL_len, hn1, hn2, hn3, hd1, hd, hd2, hx, g2, hat.live, hlt, hsg, hfl]) ?_) | (refine call_ret (l05Layer (a := a) (by first | exact At.mk0 rfl | exact At.mk' 1 rfl rfl | exact At.mk' 2 rfl rfl | exact At.mk' 3 rfl rfl | exact At.mk' 4 rfl rfl | exact At.mk' 5 rfl rfl | exact At.mk' 6 rfl rfl | exact At.mk' 7 rfl rfl | exact At.mk' 8 rfl rfl | exact At.mk' 9 rfl rfl | exact At.mk' 10 rfl rfl | exact At.mk' 11 rfl rfl) hla) (by simp only [go_sem, Int.reduceLT, Int.reduceLE, Int.reduceEq, Int.reduceToNat, hsol, hL, e1, e2, b3, sL, encL_len, hn1, hn2, hn3, hd1, hd, hd2, hx, g2, hat.live, hlt, hsg, hfl]) ?_)) | ((with_reducible refine isMC ?_); first | (refine mcall_ret (l05Ok (h0 _) (by omega) hly) (by simp only [go_sem, Int.reduceLT, Int.reduceLE, Int.reduceEq, Int.reduceToNat, hsol, hL, e1, e2, b3, sL, encL_len, hn1, hn2, hn3, hd1, hd, hd2, hx, g2, hat.live, hlt, hsg, hfl]) (by simp only [go_sem, Int.reduceLT, Int.reduceLE, Int.reduceEq, Int.reduceToNat, hsol, hL, e1, e2, b3, sL, encL_len, hn1, hn2, hn3, hd1, hd, hd2, hx, g2, hat.live, hlt, hsg, hfl]) ?_) | (refine mcall_ret (l05Layer (a := a) (by first | exact At.mk0 rfl | exact At.mk' 1 rfl rfl | exact At.mk' 2 rfl rfl | exact At.mk' 3 rfl rfl | exact At.mk' 4 rfl rfl | exact At.mk' 5 rfl rfl | exact At.mk' 6 rfl rfl | exact At.mk' 7 rfl rfl | exact At.mk' 8 rfl rfl | exact At.mk' 9 rfl rfl | exact At.mk' 10 rfl rfl | exact At.mk' 11 rfl rfl) hla) (by simp only [go_sem, Int.reduceLT, Int.reduceLE, Int.reduceEq, Int.reduceToNat, hsol, hL, e1, e2, b3, sL, encL_len, hn1, hn2, hn3, hd1, hd, hd2, hx, g2, hat.live, hlt, hsg, hfl]) (by simp only [go_sem, Int.reduceLT, Int.reduceLE, Int.reduceEq, Int.reduceToNat, hsol, hL, e1, e2, b3, sL, encL_len, hn1, hn2, hn3, hd1, hd, hd2, hx, g2, hat.live, hlt, hsg, hfl]) ?_)) | ((with_reducible refine And.intro ?_ ?_); first | (with_reducible rfl) | assumption | (simp only [go_sem]; done)))
    have hlts : lts H.length (encL a ++ l.flatMap encL) = True := by have := flat_encL.lts H.length (a :: l); rwa [List.flatMap_cons] at this
    refine ret_one hq hw _ (.inl rfl) 1 rfl (of_eq_true hlts) (.t [.s H.length 0 (a :: l).length (.u 0), .v (.int .i64 0)]) (by simp [go_sem]) ?_
    simp [go_sem, conc, concs, upσ, Cap.val] <;> (intros; omega)
end Go.Proofs.Ytheeehjgmifclaa

