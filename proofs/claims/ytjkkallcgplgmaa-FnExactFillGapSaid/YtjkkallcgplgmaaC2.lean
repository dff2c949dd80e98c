/- Contracts of functions of the translated program, by the walk. -/
import Derived.Test.YtjkkallcgplgmaaC1
set_option linter.unusedVariables false
set_option linter.unusedSimpArgs false
set_option maxRecDepth 8000
set_option maxHeartbeats 4000000
namespace Go.Proofs.Ytjkkallcgplgmaa
open Go Go.Sx
theorem isPlace {H : List Blk} {a b : Int} : Cal Try.prog 148 [.v (.int .i64 a), .v (.int .i64 b)] H fun v H' => v = .v (.bool (placeB a b)) ∧ H' = H := by
  refine cal_fn 9 mixed Try.func148 Try.ntmps148 Try.results148 rfl rfl rfl fun hw cx hx hq => ?_
  cases e : (decide (0 ≤ a) && decide (a ≤ 11))
  · repeat (first | (simp only [go_sem, Int.reduceLT, Int.reduceLE, Int.reduceEq, Int.reduceToNat, e]) | ((with_reducible refine And.intro ?_ ?_); omega) | ((with_reducible refine isSK ?_); first | (refine call_ret (inRange) (by simp only [go_sem, Int.reduceLT, Int.reduceLE, Int.reduceEq, Int.reduceToNat, e]) ?_)) | ((with_reducible refine isMC ?_); first | (refine mcall_ret (inRange) (by simp only [go_sem, Int.reduceLT, Int.reduceLE, Int.reduceEq, Int.reduceToNat, e]) (by simp only [go_sem, Int.reduceLT, Int.reduceLE, Int.reduceEq, Int.reduceToNat, e]) ?_)) | ((with_reducible refine And.intro ?_ ?_); first | (with_reducible rfl) | assumption | (simp only [go_sem]; done)))
    refine ret_same hq _ (.inl rfl) ?_
    simp [go_sem, placeB, e]
  · repeat (first | (simp only [go_sem, Int.reduceLT, Int.reduceLE, Int.reduceEq, Int.reduceToNat, e]) | ((with_reducible refine And.intro ?_ ?_); omega) | ((with_reducible refine isSK ?_); first | (refine call_ret (inRange) (by simp only [go_sem, Int.reduceLT, Int.reduceLE, Int.reduceEq, Int.reduceToNat, e]) ?_)) | ((with_reducible refine isMC ?_); first | (refine mcall_ret (inRange) (by simp only [go_sem, Int.reduceLT, Int.reduceLE, Int.reduceEq, Int.reduceToNat, e]) (by simp only [go_sem, Int.reduceLT, Int.reduceLE, Int.reduceEq, Int.reduceToNat, e]) ?_)) | ((with_reducible refine And.intro ?_ ?_); first | (with_reducible rfl) | assumption | (simp only [go_sem]; done)))
    refine ret_same hq _ (.inl rfl) ?_
    simp [go_sem, placeB, e]
theorem and_dot {a x : Int} (ha : 0 ≤ a) (ha2 : a < 65536) (hx : 0 ≤ x) (hx2 : x ≤ 15) : decide (bits .and .u16 (a.fdiv (2 ^ (min x.toNat 16))) 1 = 1) = a.toNat.testBit x.toNat := by
  have h := shr_dot ha hx hx2
  rw [wrap_u64 hx (by omega)] at h
  rw [← h]
  have hp : (0 : Int) ≤ 2 ^ (min x.toNat 16) := by exact_mod_cast Nat.zero_le (2 ^ (min x.toNat 16))
  have h0 : 0 ≤ a.fdiv (2 ^ (min x.toNat 16)) := Int.fdiv_nonneg ha hp
  have h1 : a.fdiv (2 ^ (min x.toNat 16)) ≤ a := by rw [Int.fdiv_eq_ediv_of_nonneg _ hp]; exact Int.ediv_le_self _ ha
  generalize a.fdiv (2 ^ (min x.toNat 16)) = q at h0 h1
  obtain ⟨n, rfl⟩ := Int.eq_ofNat_of_zero_le h0
  have h2 := u16_and_nat n 1 (by omega) (by omega)
  rw [Nat.and_one_is_mod] at h2
  have h3 : bits .and .u16 (n : Int) 1 = ((n % 2 : Nat) : Int) := h2
  rw [h3, Int.tmod_eq_emod_of_nonneg h0]
  congr 1
theorem has {H : List Blk} {f : Nat → Int} {a c : Int} (hf : R16 f) : Cal Try.prog 137 [.a (rowL .u16 12 (f)), .v (.int .i64 a), .v (.int .i64 c)] H fun v H' => v = .v (.bool (hasF f a c)) ∧ H' = H := by
  refine cal_fn 16 mixed Try.func137 Try.ntmps137 Try.results137 rfl rfl rfl fun hw cx hx hq => ?_
  cases e : placeB a c
  · repeat (first | (simp only [go_sem, Int.reduceLT, Int.reduceLE, Int.reduceEq, Int.reduceToNat, e]) | ((with_reducible refine And.intro ?_ ?_); omega) | ((with_reducible refine isSK ?_); first | (refine call_ret (isPlace) (by simp only [go_sem, Int.reduceLT, Int.reduceLE, Int.reduceEq, Int.reduceToNat, e]) ?_)) | ((with_reducible refine isMC ?_); first | (refine mcall_ret (isPlace) (by simp only [go_sem, Int.reduceLT, Int.reduceLE, Int.reduceEq, Int.reduceToNat, e]) (by simp only [go_sem, Int.reduceLT, Int.reduceLE, Int.reduceEq, Int.reduceToNat, e]) ?_)) | ((with_reducible refine And.intro ?_ ?_); first | (with_reducible rfl) | assumption | (simp only [go_sem]; done)))
    refine ret_cut hq hw _ (.inl rfl) ?_
    simp [go_sem, hasF, e]
  · have e' := placeB_iff.1 e
    have h16 := hf c.toNat (by omega)
    repeat (first | (simp only [go_sem, Int.reduceLT, Int.reduceLE, Int.reduceEq, Int.reduceToNat, e, rowL_cel _ _ _ (show c.toNat < 12 by omega), and_dot h16.1 h16.2 e'.1.1 (by omega)]) | ((with_reducible refine And.intro ?_ ?_); omega) | ((with_reducible refine isSK ?_); first | (refine call_ret (isPlace) (by simp only [go_sem, Int.reduceLT, Int.reduceLE, Int.reduceEq, Int.reduceToNat, e, rowL_cel _ _ _ (show c.toNat < 12 by omega), and_dot h16.1 h16.2 e'.1.1 (by omega)]) ?_)) | ((with_reducible refine isMC ?_); first | (refine mcall_ret (isPlace) (by simp only [go_sem, Int.reduceLT, Int.reduceLE, Int.reduceEq, Int.reduceToNat, e, rowL_cel _ _ _ (show c.toNat < 12 by omega), and_dot h16.1 h16.2 e'.1.1 (by omega)]) (by simp only [go_sem, Int.reduceLT, Int.reduceLE, Int.reduceEq, Int.reduceToNat, e, rowL_cel _ _ _ (show c.toNat < 12 by omega), and_dot h16.1 h16.2 e'.1.1 (by omega)]) ?_)) | ((with_reducible refine And.intro ?_ ?_); first | (with_reducible rfl) | assumption | (simp only [go_sem]; done)))
    refine ret_cut hq hw _ (.inl rfl) ?_
    simp [go_sem, hasF, e, dot]
theorem dots {H : List Blk} {f : Nat → Int} (hf : R16 f) :
    Cal Try.prog 120 [.a (rowL .u16 12 (f))] H fun v H' => v = .s H.length 0 (dotsF f).length (.u 0) ∧ H' = H ++ [⟨(dotsF f).flatMap dotL, 134, .own 2⟩] := by
  refine cal_fn 27 mixed Try.func120 Try.ntmps120 Try.results120 rfl rfl rfl fun hw cx hx hq => ?_
  repeat (first | (simp only [go_sem, Int.reduceLT, Int.reduceLE, Int.reduceEq, Int.reduceToNat]) | ((with_reducible refine And.intro ?_ ?_); omega) | ((with_reducible refine And.intro ?_ ?_); first | (with_reducible rfl) | assumption | (simp only [go_sem]; done)))
  refine WK_for (fun y : Nat => ⟨[.any, .p H.length 0, .any, .s (H.length + 1) 0 (dotsTo f (y * 12)).length (.u 0), .any, .any, .any, .v (.int .i64 y)] ++ junk 20, H ++ [⟨rowL .u16 12 (f), 64, .fix⟩, ⟨(dotsTo f (y * 12)).flatMap dotL, 134, .own 2⟩]⟩) (fun y => y ≤ 12) (fun y => 12 - y) 0 (Weak.slots ?_) ?_ fun y hy => ?_
  · simp [go_sem, dotsTo]
  · simp
  rcases Int.lt_or_le (y : Int) 12 with hc | hc
  · repeat (first | (simp only [go_sem, Int.reduceLT, Int.reduceLE, Int.reduceEq, Int.reduceToNat, hc]) | ((with_reducible refine And.intro ?_ ?_); omega) | ((with_reducible refine And.intro ?_ ?_); first | (with_reducible rfl) | assumption | (simp only [go_sem]; done)))
    refine WK_for (fun z : Nat => ⟨[.any, .p H.length 0, .any, .s (H.length + 1) 0 (dotsTo f (y * 12 + z)).length (.u 0), .v (.int .i64 y), .any, .any, .v (.int .i64 y), .any, .any, .v (.int .i64 z)] ++ junk 17, H ++ [⟨rowL .u16 12 (f), 64, .fix⟩, ⟨(dotsTo f (y * 12 + z)).flatMap dotL, 134, .own 2⟩]⟩) (fun z => z ≤ 12) (fun z => 12 - z) 0 (Weak.slots ?_) ?_ fun z hz => ?_
    · simp [go_sem]
    · simp
    rcases Int.lt_or_le (z : Int) 12 with hc2 | hc2
    · have hdot : hasF f z y = dot f z y := by simp [hasF, placeB]; omega
      have hk1 : (y * 12 + z) % 12 = z := by omega
      have hk2 : (y * 12 + z) / 12 = y := by omega
      have hsucc := dotsTo_succ f (y * 12 + z)
      rw [hk1, hk2] at hsucc
      have hlen := dotsTo_len f (y * 12 + z)
      repeat (first | (simp only [go_sem, Int.reduceLT, Int.reduceLE, Int.reduceEq, Int.reduceToNat, hc2, hdot]) | ((with_reducible refine And.intro ?_ ?_); omega) | ((with_reducible refine isSK ?_); first | (refine call_ret (has hf) (by simp only [go_sem, Int.reduceLT, Int.reduceLE, Int.reduceEq, Int.reduceToNat, hc2, hdot]) ?_)) | ((with_reducible refine isMC ?_); first | (refine mcall_ret (has hf) (by simp only [go_sem, Int.reduceLT, Int.reduceLE, Int.reduceEq, Int.reduceToNat, hc2, hdot]) (by simp only [go_sem, Int.reduceLT, Int.reduceLE, Int.reduceEq, Int.reduceToNat, hc2, hdot]) ?_)) | ((with_reducible refine And.intro ?_ ?_); first | (with_reducible rfl) | assumption | (simp only [go_sem]; done)))
      cases e : dot f z y
      · repeat (first | (simp only [go_sem, Int.reduceLT, Int.reduceLE, Int.reduceEq, Int.reduceToNat]) | ((with_reducible refine And.intro ?_ ?_); omega) | ((with_reducible refine And.intro ?_ ?_); first | (with_reducible rfl) | assumption | (simp only [go_sem]; done)))
        have e2 : dotsTo f (y * 12 + (z + 1)) = dotsTo f (y * 12 + z) := by rw [← Nat.add_assoc, hsucc, e]; simp
        refine EK_again (z + 1) ?_ (by omega) (by omega)
        simp only [e2]
        exact Weak.slots (by simp [go_sem])
      · have e2 : dotsTo f (y * 12 + (z + 1)) = dotsTo f (y * 12 + z) ++ [y * 12 + z] := by rw [← Nat.add_assoc, hsucc, e]; simp
        have hl2 := flat_len dotL 2 dotL_len (dotsTo f (y * 12 + z))
        have hn : norefH (H.length + 1) H := norefH_wf hw (by omega)
        have hn2 : norefs (H.length + 1) ((dotsTo f (y * 12 + z)).flatMap dotL) = true := lts_norefs (Nat.le_refl _) _ (dots_lts _ _)
        repeat (first | (simp only [go_sem, Int.reduceLT, Int.reduceLE, Int.reduceEq, Int.reduceToNat, wrap_i8 (show (-128 : Int) ≤ z by omega) (by omega), wrap_i8 (show (-128 : Int) ≤ y by omega) (by omega), hl2, hn, hn2, hx]) | ((with_reducible refine And.intro ?_ ?_); omega) | ((with_reducible refine And.intro ?_ ?_); first | (with_reducible rfl) | assumption | (simp only [go_sem]; done)))
        refine EK_again (z + 1) ?_ (by omega) (by omega)
        have e3 : (dotsTo f (y * 12 + z) ++ [y * 12 + z]).flatMap dotL = (dotsTo f (y * 12 + z)).flatMap dotL ++ [.v (.int .i8 z), .v (.int .i8 y)] := by
          rw [List.flatMap_append]; simp [dotL, hk1, hk2]
        simp only [e2, e3]
        refine Weak.both (H := H ++ [⟨rowL .u16 12 (f), 64, .fix⟩, ⟨(dotsTo f (y * 12 + z)).flatMap dotL ++ [.v (.int .i8 z), .v (.int .i8 y)], 134, .own 2⟩]) (L := [⟨[.v (.int .i8 z), .v (.int .i8 y)], 134, .own 2⟩]) ?_ ?_ ?_ ?_ (hw.app ?_)
        · simp
        · simp [go_sem]
        · simp [hx]
        · simp [go_sem]
        · simp [go_sem, dots_lts]
    · have : z = 12 := by omega
      subst this
      have e2 : y * 12 + 12 = (y + 1) * 12 := by omega
      repeat (first | (simp only [go_sem, Int.reduceLT, Int.reduceLE, Int.reduceEq, Int.reduceToNat, Int.not_lt.2 hc2]) | ((with_reducible refine And.intro ?_ ?_); omega) | ((with_reducible refine And.intro ?_ ?_); first | (with_reducible rfl) | assumption | (simp only [go_sem]; done)))
      refine EK_again (y + 1) ?_ (by omega) (by omega)
      simp only [e2]
      exact Weak.slots (by simp [go_sem])
  · have : y = 12 := by omega
    subst this
    repeat (first | (simp only [go_sem, Int.reduceLT, Int.reduceLE, Int.reduceEq, Int.reduceToNat, Int.not_lt.2 hc]) | ((with_reducible refine And.intro ?_ ?_); omega) | ((with_reducible refine And.intro ?_ ?_); first | (with_reducible rfl) | assumption | (simp only [go_sem]; done)))
    refine ret_one hq hw _ (.inl rfl) 1 rfl (dots_lts _ _) (.s H.length 0 (dotsF f).length (.u 0)) (by simp [go_sem]) ?_
    simp [go_sem, conc, upσ, dotsF, Cap.val]
end Go.Proofs.Ytjkkallcgplgmaa

