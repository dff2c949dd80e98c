/- Contracts of functions of the translated program, by the walk. -/
import Derived.Test.YtheeehjgmifclaaB2
import Derived.Test.YtheeehjgmifclaaLD
set_option linter.unusedVariables false
set_option linter.unusedSimpArgs false
set_option maxRecDepth 8000
set_option maxHeartbeats 4000000
namespace Go.Proofs.Ytheeehjgmifclaa
open Go Go.Sx
theorem isPlace {H : List Blk} {a b : Int} : Cal Try.prog 83 [.v (.int .i64 a), .v (.int .i64 b)] H fun v H' => v = .v (.bool (placeB a b)) ∧ H' = H := by
  refine cal_fn 9 mixed Try.func83 Try.ntmps83 Try.results83 rfl rfl rfl fun hw cx hx hq => ?_
  cases e : (decide (0 ≤ a) && decide (a ≤ 11))
  · repeat (first | (simp only [go_sem, Int.reduceLT, Int.reduceLE, Int.reduceEq, Int.reduceToNat, e]) | ((with_reducible refine And.intro ?_ ?_); omega) | ((with_reducible refine isSK ?_); first | (refine call_ret (inRange) (by simp only [go_sem, Int.reduceLT, Int.reduceLE, Int.reduceEq, Int.reduceToNat, e]) ?_)) | ((with_reducible refine isMC ?_); first | (refine mcall_ret (inRange) (by simp only [go_sem, Int.reduceLT, Int.reduceLE, Int.reduceEq, Int.reduceToNat, e]) (by simp only [go_sem, Int.reduceLT, Int.reduceLE, Int.reduceEq, Int.reduceToNat, e]) ?_)) | ((with_reducible refine And.intro ?_ ?_); first | (with_reducible rfl) | assumption | (simp only [go_sem]; done)))
    refine ret_same hq _ (.inl rfl) ?_
    simp [go_sem, placeB, e]
  · repeat (first | (simp only [go_sem, Int.reduceLT, Int.reduceLE, Int.reduceEq, Int.reduceToNat, e]) | ((with_reducible refine And.intro ?_ ?_); omega) | ((with_reducible refine isSK ?_); first | (refine call_ret (inRange) (by simp only [go_sem, Int.reduceLT, Int.reduceLE, Int.reduceEq, Int.reduceToNat, e]) ?_)) | ((with_reducible refine isMC ?_); first | (refine mcall_ret (inRange) (by simp only [go_sem, Int.reduceLT, Int.reduceLE, Int.reduceEq, Int.reduceToNat, e]) (by simp only [go_sem, Int.reduceLT, Int.reduceLE, Int.reduceEq, Int.reduceToNat, e]) ?_)) | ((with_reducible refine And.intro ?_ ?_); first | (with_reducible rfl) | assumption | (simp only [go_sem]; done)))
    refine ret_same hq _ (.inl rfl) ?_
    simp [go_sem, placeB, e]
theorem and_dot {a x : Int} (ha : 0 ≤ a) (ha2 : a < 65536) (hx : 0 ≤ x) (hx2 : x ≤ 15) : decide (bits .and .u16 (a.fdiv (2 ^ (min x.toNat 16))) 1 = 1) = a.toNat.testBit x.toNat := by
  have h := shr_dot ha hx hx2
  rw [wrap_u64 hx (by omega)] at h
  rw [← h]
  have hp : (0 : Int) ≤ 2 ^ (min x.toNat 16) := by exact_mod_cast Nat.zero_le (2 ^ (min x.toNat 16))
  have h0 : 0 ≤ a.fdiv (2 ^ (min x.toNat 16)) := Int.fdiv_nonneg ha hp
  have h1 : a.fdiv (2 ^ (min x.toNat 16)) ≤ a := by rw [Int.fdiv_eq_ediv_of_nonneg _ hp]; exact Int.ediv_le_self _ ha
  generalize a.fdiv (2 ^ (min x.toNat 16)) = q at h0 h1
  obtain ⟨n, rfl⟩ := Int.eq_ofNat_of_zero_le h0
  have h2 := u16_and_nat n 1 (by omega) (by omega)
  rw [Nat.and_one_is_mod] at h2
  have h3 : bits .and .u16 (n : Int) 1 = ((n % 2 : Nat) : Int) := h2
  rw [h3, Int.tmod_eq_emod_of_nonneg h0]
  congr 1
theorem has {H : List Blk} {f : Nat → Int} {a c : Int} (hf : R16 f) : Cal Try.prog 87 [.a (rowL .u16 12 (f)), .v (.int .i64 a), .v (.int .i64 c)] H fun v H' => v = .v (.bool (hasF f a c)) ∧ H' = H := by
  refine cal_fn 16 mixed Try.func87 Try.ntmps87 Try.results87 rfl rfl rfl fun hw cx hx hq => ?_
  cases e : placeB a c
  · repeat (first | (simp only [go_sem, Int.reduceLT, Int.reduceLE, Int.reduceEq, Int.reduceToNat, e]) | ((with_reducible refine And.intro ?_ ?_); omega) | ((with_reducible refine isSK ?_); first | (refine call_ret (isPlace) (by simp only [go_sem, Int.reduceLT, Int.reduceLE, Int.reduceEq, Int.reduceToNat, e]) ?_)) | ((with_reducible refine isMC ?_); first | (refine mcall_ret (isPlace) (by simp only [go_sem, Int.reduceLT, Int.reduceLE, Int.reduceEq, Int.reduceToNat, e]) (by simp only [go_sem, Int.reduceLT, Int.reduceLE, Int.reduceEq, Int.reduceToNat, e]) ?_)) | ((with_reducible refine And.intro ?_ ?_); first | (with_reducible rfl) | assumption | (simp only [go_sem]; done)))
    refine ret_cut hq hw _ (.inl rfl) ?_
    simp [go_sem, hasF, e]
  · have e' := placeB_iff.1 e
    have h16 := hf c.toNat (by omega)
    repeat (first | (simp only [go_sem, Int.reduceLT, Int.reduceLE, Int.reduceEq, Int.reduceToNat, e, rowL_cel _ _ _ (show c.toNat < 12 by omega), and_dot h16.1 h16.2 e'.1.1 (by omega)]) | ((with_reducible refine And.intro ?_ ?_); omega) | ((with_reducible refine isSK ?_); first | (refine call_ret (isPlace) (by simp only [go_sem, Int.reduceLT, Int.reduceLE, Int.reduceEq, Int.reduceToNat, e, rowL_cel _ _ _ (show c.toNat < 12 by omega), and_dot h16.1 h16.2 e'.1.1 (by omega)]) ?_)) | ((with_reducible refine isMC ?_); first | (refine mcall_ret (isPlace) (by simp only [go_sem, Int.reduceLT, Int.reduceLE, Int.reduceEq, Int.reduceToNat, e, rowL_cel _ _ _ (show c.toNat < 12 by omega), and_dot h16.1 h16.2 e'.1.1 (by omega)]) (by simp only [go_sem, Int.reduceLT, Int.reduceLE, Int.reduceEq, Int.reduceToNat, e, rowL_cel _ _ _ (show c.toNat < 12 by omega), and_dot h16.1 h16.2 e'.1.1 (by omega)]) ?_)) | ((with_reducible refine And.intro ?_ ?_); first | (with_reducible rfl) | assumption | (simp only [go_sem]; done)))
    refine ret_cut hq hw _ (.inl rfl) ?_
    simp [go_sem, hasF, e, dot]
end Go.Proofs.Ytheeehjgmifclaa

