/- Contracts of functions of the translated program, by the walk. -/
import Derived.Test.YtheeehjgmifclaaR1e
import Derived.Test.YtheeehjgmifclaaLD
set_option linter.unusedVariables false
set_option linter.unusedSimpArgs false
set_option maxRecDepth 8000
set_option maxHeartbeats 4000000
namespace Go.Proofs.Ytheeehjgmifclaa
open Go Go.Sx
theorem l00In {H : List Blk} {n lo hi : Int} : Cal Try.prog 61 [.v (.int .i64 n), .v (.int .i64 lo), .v (.int .i64 hi)] H fun v H' => v = .v (.bool (decide (lo ≤ n) && decide (n ≤ hi))) ∧ H' = H := by
  refine cal_fn 12 mixed Try.func61 Try.ntmps61 Try.results61 rfl rfl rfl fun hw cx hx hq => ?_
  by_cases h1 : lo ≤ n
  · simp only [go_sem, h1]
    refine ret_same hq _ (.inl rfl) ?_
    simp [go_sem, h1]
  · simp only [go_sem, h1]
    refine ret_same hq _ (.inl rfl) ?_
    simp [go_sem, h1]
theorem inRange {H : List Blk} {n lo hi : Int} : Cal Try.prog 102 [.v (.int .i64 n), .v (.int .i64 lo), .v (.int .i64 hi)] H fun v H' => v = .v (.bool (decide (lo ≤ n) && decide (n ≤ hi))) ∧ H' = H := by
  refine cal_fn 12 mixed Try.func102 Try.ntmps102 Try.results102 rfl rfl rfl fun hw cx hx hq => ?_
  by_cases h1 : lo ≤ n
  · simp only [go_sem, h1]
    refine ret_same hq _ (.inl rfl) ?_
    simp [go_sem, h1]
  · simp only [go_sem, h1]
    refine ret_same hq _ (.inl rfl) ?_
    simp [go_sem, h1]
theorem l01Place {H : List Blk} {a b : Int} : Cal Try.prog 80 [.v (.int .i64 a), .v (.int .i64 b)] H fun v H' => v = .v (.bool (placeB a b)) ∧ H' = H := by
  refine cal_fn 9 mixed Try.func80 Try.ntmps80 Try.results80 rfl rfl rfl fun hw cx hx hq => ?_
  simp only [go_sem]
  refine call_ret l00In (by simp only [go_sem]) ?_
  cases e : (decide (0 ≤ a) && decide (a ≤ 11))
  · simp only [go_sem]
    refine ret_same hq _ (.inl rfl) ?_
    simp [go_sem, placeB, e]
  · simp only [go_sem]
    refine call_ret l00In (by simp only [go_sem]) ?_
    simp only [go_sem]
    refine ret_same hq _ (.inl rfl) ?_
    simp [go_sem, placeB, e]
/-- The cells of a dot, by its number. -/
def dotL (k : Nat) : List V := [.v (.int .i8 ((k % 12 : Nat) : Int)), .v (.int .i8 ((k / 12 : Nat) : Int))]
theorem dotL_len (k : Nat) : (dotL k).length = 2 := rfl
theorem wrap_i8 {x : Int} (h : -128 ≤ x) (h2 : x ≤ 127) : IntKind.i8.wrap x = x := by
  unfold IntKind.wrap
  simp only [IntKind.bits, IntKind.signed, Bool.true_and]
  split <;> rename_i hc <;> simp only [decide_eq_true_eq, ge_iff_le] at hc <;> omega
theorem dots_lts (m : Nat) (l : List Nat) : lts m (l.flatMap dotL) := by
  rw [lts_iff]; intro v hv
  obtain ⟨k, _, hk⟩ := List.mem_flatMap.1 hv
  simp [dotL] at hk
  rcases hk with rfl | rfl <;> rfl
theorem elem_dots {l : List Nat} {n : Nat} (hn : n < l.length) : cel (l.flatMap dotL) (n * 2) = .v (.int .i8 ((l[n] % 12 : Nat) : Int)) ∧ cel (l.flatMap dotL) (n * 2 + 1) = .v (.int .i8 ((l[n] / 12 : Nat) : Int)) := by
  have h := flat_seg dotL 2 dotL_len l n hn
  exact ⟨cel_of_seg (j := 0) h (by omega), cel_of_seg (j := 1) h (by omega)⟩
end Go.Proofs.Ytheeehjgmifclaa

