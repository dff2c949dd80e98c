/- Contracts of functions of the translated program, by the walk. -/
import Derived.Test.YtheeehjgmifclaaT1
set_option linter.unusedVariables false
set_option linter.unusedSimpArgs false
set_option maxRecDepth 8000
set_option maxHeartbeats 4000000
namespace Go.Proofs.Ytheeehjgmifclaa
open Go Go.Sx
def okF (f : Nat → Int) : Bool := allN 12 fun j => decide (f j ≤ 4095)
theorem okF_iff (f : Nat → Int) : okF f = true ↔ ∀ j, j < 12 → f j ≤ 4095 := by simp [okF, allN_iff]
def lessF (f g : Nat → Int) (j : Nat) : Int := bits .andNot .u16 (f j) (g j)

theorem l01Ok {H : List Blk} {i off : Nat} {f : Nat → Int} {b : Blk} (h : At H i off (rowL .u16 12 (f)) b) : Cal Try.prog 130 [.p i off] H fun v H' => v = .v (.bool (okF f)) ∧ H' = H := by
  refine cal_fn 13 mixed Try.func130 Try.ntmps130 Try.results130 rfl rfl rfl fun hw cx hx hq => ?_
  simp only [go_sem]
  refine WK_for (fun n : Nat => ⟨[.p i off, .any, .v (.bool false), .v (.int .i64 n), .any, .any, .any, .any, .any, .any, .any, .any, .any, .any], H⟩) (fun n => n ≤ 12 ∧ ∀ j, j < n → f j ≤ 4095) (fun n => 12 - n) 0 (Weak.slots ?_) ?_ fun n hn => ?_
  · simp [go_sem]
  · simp
  rcases Int.lt_or_le (n : Int) 12 with hc | hc
  · simp only [go_sem, h.get, h.live, h.cel (show n < 12 by omega), hc]
    have := h.len (by simp [go_sem])
    simp only [go_sem] at this
    repeat (refine And.intro (by omega) ?_)
    refine ⟨fun h2 => ?_, fun h2 => ?_⟩
    · refine ret_same hq _ (.inl rfl) ?_
      simp only [go_sem]
      have : okF f = false := by
        rw [Bool.eq_false_iff]; intro h3; have := (okF_iff f).1 h3 n (by omega); omega
      rw [this]
    · repeat (refine And.intro (by omega) ?_)
      refine EK_again (n + 1) (Weak.slots ?_) ⟨by omega, fun j hj => ?_⟩ (by omega)
      · simp [go_sem]
      · by_cases e : j = n
        · subst e; omega
        · exact hn.2 j (by omega)
  · simp only [go_sem, Int.not_lt.2 hc]
    refine ret_same hq _ (.inl rfl) ?_
    simp only [go_sem]
    have : n = 12 := by omega
    subst this
    rw [(okF_iff f).2 hn.2]

theorem l01Less {H : List Blk} {i off j o2 : Nat} {f g : Nat → Int} {b b2 : Blk} (h : At H i off (rowL .u16 12 (f)) b) (h2 : At H j o2 (rowL .u16 12 (g)) b2) : Cal Try.prog 118 [.p i off, .p j o2] H fun v H' => v = .a (rowL .u16 12 (lessF f g)) ∧ H' = H := by
  refine cal_fn 24 mixed Try.func118 Try.ntmps118 Try.results118 rfl rfl rfl fun hw cx hx hq => ?_
  simp only [go_sem, rowL_rep]

  refine WK_for (fun n : Nat => ⟨[.p i off, .p j o2, .any, .any, .p H.length 0, .p (H.length + 1) 0, .v (.int .i64 n)] ++ junk 19, H ++ [⟨rowL .u16 12 (fun _ => 0), 40, .fix⟩, ⟨rowL .u16 12 (pfx (lessF f g) (fun _ => 0) n), 40, .fix⟩]⟩) (fun n => n ≤ 12) (fun n => 12 - n) 0 (Weak.slots ?_) ?_ fun n hn => ?_
  · simp [go_sem, pfx_zero]
  · simp
  rcases Int.lt_or_le (n : Int) 12 with hc | hc
  · simp only [go_sem, hc]
    refine DK_all _ _ _ [[],[],[],[1],[1,2,3],[1,2,3,4],[],[],[6],[6,7,8],[6,7,8,9],[1,2,3,4,5,6,7,8,9,10],[0,1,2,3,4,5,6,7,8,9,10,11],[0,1,2,3,4,5,6,7,8,9,10,11,12]] (by kernel_rfl) ?_
    simp only [go_sem, h.lt, h.get, h.live, h.cel (show n < 12 by omega), h2.lt, h2.get, h2.live, h2.cel (show n < 12 by omega)]
    have := h.len (by simp [go_sem])
    have := h2.len (by simp [go_sem])
    simp only [go_sem] at *
    repeat (refine And.intro (by omega) ?_)
    refine EK_again (n + 1) ?_ (by omega) (by omega)
    rw [wr_pfx .u16 (lessF f g) _ (show n < 12 by omega) (show bits .andNot .u16 (f n) (g n) = lessF f g n from rfl)]
    exact Weak.slots (by simp [go_sem])
  · have : n = 12 := by omega
    subst this
    simp only [go_sem, Int.not_lt.2 hc, pfx_all]
    refine ret_cut hq hw _ (.inl rfl) ?_
    simp only [go_sem]
end Go.Proofs.Ytheeehjgmifclaa

