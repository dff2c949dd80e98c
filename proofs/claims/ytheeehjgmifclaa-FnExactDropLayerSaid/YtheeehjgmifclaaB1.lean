/- Contracts of functions of the translated program, by the walk. -/
import Derived.Test.YtheeehjgmifclaaR1f
import Derived.Test.YtheeehjgmifclaaLD
set_option linter.unusedVariables false
set_option linter.unusedSimpArgs false
set_option maxRecDepth 8000
set_option maxHeartbeats 4000000
namespace Go.Proofs.Ytheeehjgmifclaa
open Go Go.Sx

/-- What the laws lay behind a book's pages. -/
def fillF : Nat → Int := upd (fun _ => 0) 0 60201
theorem roomBehind {H : List Blk} {n : Nat} (hn : n ≤ 1000000) : Cal Try.prog 62 [.v (.int .i64 n)] H fun u H' => u = .v (.int .i64 (room n)) ∧ H' = H := by
  refine cal_fn 9 mixed Try.func62 Try.ntmps62 Try.results62 rfl rfl rfl fun hw cx hx hq => ?_
  have e6 : ((n : Int).tmod 6 = 5) = (n % 6 = 5) := by apply propext; rw [Int.tmod_eq_emod_of_nonneg (by omega)]; omega
  have e3 : ((n : Int).tmod 3 = 0) = (n % 3 = 0) := by apply propext; rw [Int.tmod_eq_emod_of_nonneg (by omega)]; omega
  simp only [go_sem, e6, e3]
  repeat (refine And.intro (by omega) ?_)
  refine ⟨fun e => ?_, fun e => ?_⟩
  · refine ret_same hq _ (.inl rfl) ?_
    simp [go_sem, room, e]
  repeat (refine And.intro (by omega) ?_)
  refine ⟨fun e2 => ?_, fun e2 => ?_⟩
  · refine ret_same hq _ (.inl rfl) ?_
    simp [go_sem, room, e, e2]
  · refine ret_same hq _ (.inl rfl) ?_
    simp [go_sem, room, e, e2]

end Go.Proofs.Ytheeehjgmifclaa


