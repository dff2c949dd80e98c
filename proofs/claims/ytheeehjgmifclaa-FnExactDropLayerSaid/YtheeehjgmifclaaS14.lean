/- Contracts of functions of the translated program, by the walk. -/
import Derived.Test.YtheeehjgmifclaaS4
import Derived.Test.YtheeehjgmifclaaB1
import Derived.Test.YtheeehjgmifclaaLD
import Derived.Test.YtheeehjgmifclaaS9
set_option linter.unusedVariables false
set_option linter.unusedSimpArgs false
set_option maxRecDepth 8000
set_option maxHeartbeats 4000000
namespace Go.Proofs.Ytheeehjgmifclaa
open Go Go.Sx
theorem cloneScene {H : List Blk} {i off : Nat} {c : Cap} {b : Blk} {l : List (Nat → Int)} (h : At H i off (l.flatMap encL) b) (hf : off + (l.flatMap encL).length ≤ b.cells.length) (hl : l.length ≤ 1000000) :
    Cal Try.prog 67 [.s i off l.length c] H fun u H' => u = .s H.length 0 l.length (.u 0) ∧ H' = H ++ [⟨l.flatMap encL, 44, .own 27⟩] := by
  refine cal_fn 7 mixed Try.func67 Try.ntmps67 Try.results67 rfl rfl rfl fun hw cx hx hq => ?_
  have hfl := Flat.flen flat_encL l
  rw [hfl] at hf
  have hn : norefH H.length H := norefH_wf hw (Nat.le_refl _)
  have hij : (i = H.length) = False := eq_false (by have := h.lt; omega)
  simp only [go_sem, h.get, h.live, h.lt, h.all encL_len, hn, hij, hx]
  repeat (refine And.intro (by omega) ?_)
  refine ret_at hq _ (.inl rfl) (by simp) ?_
  simp only [go_sem]
end Go.Proofs.Ytheeehjgmifclaa

