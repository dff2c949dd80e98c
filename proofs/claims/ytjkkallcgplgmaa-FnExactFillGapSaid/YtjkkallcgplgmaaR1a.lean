/- Contracts of functions of the translated program, by the walk. -/
import Derived.Test.YtjkkallcgplgmaaT1
set_option linter.unusedVariables false
set_option linter.unusedSimpArgs false
set_option maxRecDepth 8000
set_option maxHeartbeats 4000000
namespace Go.Proofs.Ytjkkallcgplgmaa
open Go Go.Sx
def okF (f : Nat → Int) : Bool := allN 12 fun j => decide (f j ≤ 4095)
theorem okF_iff (f : Nat → Int) : okF f = true ↔ ∀ j, j < 12 → f j ≤ 4095 := by simp [okF, allN_iff]
theorem l01Ok {H : List Blk} {i off : Nat} {f : Nat → Int} {b : Blk} (h : At H i off (rowL .u16 12 (f)) b) : Cal Try.prog 108 [.p i off] H fun v H' => v = .v (.bool (okF f)) ∧ H' = H := by
  refine cal_fn 13 mixed Try.func108 Try.ntmps108 Try.results108 rfl rfl rfl fun hw cx hx hq => ?_
  simp only [go_sem]
  refine WK_for (fun n : Nat => ⟨[.p i off, .any, .v (.bool false), .v (.int .i64 n), .any, .any, .any, .any, .any, .any, .any, .any, .any, .any], H⟩) (fun n => n ≤ 12 ∧ ∀ j, j < n → f j ≤ 4095) (fun n => 12 - n) 0 (Weak.slots ?_) ?_ fun n hn => ?_
  · simp [go_sem]
  · simp
  rcases Int.lt_or_le (n : Int) 12 with hc | hc
  · simp only [go_sem, h.get, h.live, h.cel (show n < 12 by omega), hc]
    have := h.len (by simp [go_sem])
    simp only [go_sem] at this
    repeat (refine And.intro (by omega) ?_)
    refine ⟨fun h2 => ?_, fun h2 => ?_⟩
    · refine ret_same hq _ (.inl rfl) ?_
      simp only [go_sem]
      have : okF f = false := by
        rw [Bool.eq_false_iff]; intro h3; have := (okF_iff f).1 h3 n (by omega); omega
      rw [this]
    · repeat (refine And.intro (by omega) ?_)
      refine EK_again (n + 1) (Weak.slots ?_) ⟨by omega, fun j hj => ?_⟩ (by omega)
      · simp [go_sem]
      · by_cases e : j = n
        · subst e; omega
        · exact hn.2 j (by omega)
  · simp only [go_sem, Int.not_lt.2 hc]
    refine ret_same hq _ (.inl rfl) ?_
    simp only [go_sem]
    have : n = 12 := by omega
    subst this
    rw [(okF_iff f).2 hn.2]

end Go.Proofs.Ytjkkallcgplgmaa

