/- Contracts of functions of the translated program, by the walk. -/
import Derived.Test.YtjkkallcgplgmaaF3
import Derived.Test.YtjkkallcgplgmaaD4
import Derived.Test.YtjkkallcgplgmaaB3
import Derived.Test.YtjkkallcgplgmaaB5
set_option linter.unusedVariables false
set_option linter.unusedSimpArgs false
set_option maxRecDepth 8000
set_option maxHeartbeats 4000000
namespace Go.Proofs.Ytjkkallcgplgmaa
open Go Go.Sx
/-- The size of a book, for a rest that may be below nothing. -/
theorem szBookW {H : List Blk} {v : V} {l : List (Nat → Int)} {k : Int} (h : Rd H v (rowL .u16 12) l) (hl : l.length ≤ 100000000000000) (hk : -100000000000000 ≤ k ∧ k ≤ 1000000) : Cal Try.prog 15 [v, .v (.int .i64 k)] H fun u H' => u = .v (.int .i64 (if (l.length : Int) ≤ k then k - l.length else -1)) ∧ H' = H := by
  refine cal_fn 10 mixed Try.func15 Try.ntmps15 Try.results15 rfl rfl rfl fun hw cx hx hq => ?_
  have hL := h.lenV (P := Try.prog) slTy22
  simp only [go_sem, hL]
  repeat (refine And.intro (by omega) ?_)
  refine ⟨fun e => ?_, fun e => ?_⟩
  · refine ret_same hq _ (.inl rfl) ?_
    simp only [go_sem]
    rw [if_neg (by omega)]
  · refine ret_same hq _ (.inl rfl) ?_
    simp only [go_sem]
    rw [if_pos (by omega)]
end Go.Proofs.Ytjkkallcgplgmaa

