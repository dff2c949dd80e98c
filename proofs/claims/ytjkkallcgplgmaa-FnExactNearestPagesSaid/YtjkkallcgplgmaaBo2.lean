/- Contracts of functions of the translated program, by the walk. -/
import Derived.Test.YtjkkallcgplgmaaD5
import Derived.Test.YtjkkallcgplgmaaLD
set_option linter.unusedVariables false
set_option linter.unusedSimpArgs false
set_option maxRecDepth 8000
set_option maxHeartbeats 4000000
namespace Go.Proofs.Ytjkkallcgplgmaa
open Go Go.Sx
theorem hz1 : ∀ x : Int, (i64C x).length = 1 := fun _ => rfl
theorem cloneI {H : List Blk} {i off : Nat} {c : Cap} {b : Blk} {l : List Int} (h : At H i off (l.flatMap i64C) b) (hf : off + (l.flatMap i64C).length ≤ b.cells.length) (hl : l.length ≤ 1000000) :
    Cal Try.prog 101 [.s i off l.length c] H fun u H' => u = .s H.length 0 l.length (.u 0) ∧ H' = H ++ [⟨l.flatMap i64C, 2, .own 1⟩] := by
  refine cal_fn 7 mixed Try.func101 Try.ntmps101 Try.results101 rfl rfl rfl fun hw cx hx hq => ?_
  have hfl := Flat.flen flat_i64 l
  rw [hfl] at hf
  have hn : norefH H.length H := norefH_wf hw (Nat.le_refl _)
  have hij : (i = H.length) = False := eq_false (by have := h.lt; omega)
  have ha := h.all hz1
  rw [Nat.mul_one] at ha hf
  simp only [go_sem, h.get, h.live, h.lt, ha, hn, hij, hx]
  repeat (refine And.intro (by omega) ?_)
  refine ret_at hq _ (.inl rfl) (by simp) ?_
  simp only [go_sem]
end Go.Proofs.Ytjkkallcgplgmaa

