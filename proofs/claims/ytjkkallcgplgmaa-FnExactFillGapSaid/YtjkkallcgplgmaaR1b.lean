/- Contracts of functions of the translated program, by the walk. -/
import Derived.Test.YtjkkallcgplgmaaR1a
set_option linter.unusedVariables false
set_option linter.unusedSimpArgs false
set_option maxRecDepth 8000
set_option maxHeartbeats 4000000
namespace Go.Proofs.Ytjkkallcgplgmaa
open Go Go.Sx
/-- slices.IndexFunc on numbers. -/
theorem indexFunc16 {H : List Blk} {i off m : Nat} {cap : Cap} {f : Nat → Int} {b : Blk} {p : Nat → Bool} {fn : Nat} {cs : List V} (h : At H i off (rowL .u16 m f) b) (h0 : 0 < m) (hm : m ≤ 9223372036854775806)
    (hp : ∀ j, j < m → ∀ L, Cal Try.prog fn (.v (.int .u16 (f j)) :: cs) (H ++ L) fun v H' => v = .v (.bool (p j)) ∧ H' = H ++ L) :
    Cal Try.prog 161 [.s i off m cap, .f fn cs] H fun v H' => v = .v (.int .i64 (idxF m p)) ∧ H' = H := by
  refine cal_fn 17 mixed Try.func161 Try.ntmps161 Try.results161 rfl rfl rfl fun hw cx hx hq => ?_
  simp only [go_sem]
  refine WK_for (fun n : Nat => ⟨[.s i off m cap, .f fn cs, .any, .any, .any, .any, .any, .v (.int .i64 m), .v (.int .i64 n)] ++ junk 10, H⟩) (fun n => n ≤ m ∧ ∀ j, j < n → p j = false) (fun n => m - n) 0 (Weak.slots ?_) ?_ fun n hn => ?_
  · simp [go_sem]
  · simp
  rcases Int.lt_or_le (n : Int) m with hc | hc
  · have hlen := h.len (by simp only [go_sem]; omega)
    simp only [go_sem] at hlen
    have hq' := hp n (by omega) []
    rw [List.append_nil] at hq'
    simp only [go_sem, hc, h.get, h.live, h.cel (show n < m by omega)]
    repeat (refine And.intro (by omega) ?_)
    refine call_ret hq' (by simp only [go_sem]) ?_
    simp only [go_sem]
    refine ⟨fun e => ?_, fun e => ?_⟩
    · refine ret_same hq _ (.inl rfl) ?_
      simp only [go_sem]
      rw [idxF_at (by omega) e hn.2]
    · repeat (refine And.intro (by omega) ?_)
      refine EK_again (n + 1) (Weak.slots (by simp [go_sem])) ⟨by omega, fun j hj => ?_⟩ (by omega)
      by_cases e2 : j = n
      · subst e2; exact e
      · exact hn.2 j (by omega)
  · simp only [go_sem, Int.not_lt.2 hc]
    refine ret_same hq _ (.inl rfl) ?_
    simp only [go_sem]
    have : n = m := by omega
    subst this
    rw [idxF_none hn.2]
theorem containsFunc16 {H : List Blk} {i off m : Nat} {cap : Cap} {f : Nat → Int} {b : Blk} {p : Nat → Bool} {fn : Nat} {cs : List V} (h : At H i off (rowL .u16 m f) b) (h0 : 0 < m) (hm : m ≤ 9223372036854775806)
    (hp : ∀ j, j < m → ∀ L, Cal Try.prog fn (.v (.int .u16 (f j)) :: cs) (H ++ L) fun v H' => v = .v (.bool (p j)) ∧ H' = H ++ L) :
    Cal Try.prog 145 [.s i off m cap, .f fn cs] H fun v H' => v = .v (.bool (anyN m p)) ∧ H' = H := by
  refine cal_fn 7 mixed Try.func145 Try.ntmps145 Try.results145 rfl rfl rfl fun hw cx hx hq => ?_
  simp only [go_sem]
  refine call_ret (indexFunc16 h h0 hm hp) (by simp only [go_sem]) ?_
  simp only [go_sem, idxF_nonneg]
  refine ret_same hq _ (.inl rfl) ?_
  simp only [go_sem]
theorem validFrame1 {H : List Blk} {x : Int} : Cal Try.prog 146 [.v (.int .u16 x)] H fun v H' => v = .v (.bool (decide (4095 < x))) ∧ H' = H := by
  refine cal_fn 4 mixed Try.func146 Try.ntmps146 Try.results146 rfl rfl rfl fun hw cx hx hq => ?_
  simp only [go_sem]
  refine ret_same hq _ (.inl rfl) ?_
  simp only [go_sem]
theorem not_any_ok (f : Nat → Int) : (!anyN 12 fun j => decide (4095 < f j)) = okF f := by
  unfold okF; rw [not_anyN]; congr 1; funext j; rw [Bool.eq_iff_iff]; simp
theorem validFrame {H : List Blk} {f : Nat → Int} : Cal Try.prog 131 [.a (rowL .u16 12 (f))] H fun v H' => v = .v (.bool (okF f)) ∧ H' = H := by
  refine cal_fn 5 mixed Try.func131 Try.ntmps131 Try.results131 rfl rfl rfl fun hw cx hx hq => ?_
  simp only [go_sem]
  repeat (refine And.intro (by omega) ?_)
  refine call_ret (containsFunc16 (p := fun j => decide (4095 < f j)) (At.mk0 rfl) (by omega) (by omega) fun j _ L => validFrame1) (by simp only [go_sem]) ?_
  simp only [go_sem, not_any_ok]
  refine ret_cut hq hw _ (.inl rfl) ?_
  simp only [go_sem]
theorem areFrames1 {H : List Blk} {f : Nat → Int} : Cal Try.prog 130 [.a (rowL .u16 12 (f))] H fun v H' => v = .v (.bool (!okF f)) ∧ H' = H := by
  refine cal_fn 5 mixed Try.func130 Try.ntmps130 Try.results130 rfl rfl rfl fun hw cx hx hq => ?_
  simp only [go_sem]
  refine call_ret validFrame (by simp only [go_sem]) ?_
  simp only [go_sem]
  refine ret_cut hq hw _ (.inl rfl) ?_
  simp only [go_sem]
/-- (Frame).mix, whatever the rows are mixed by. -/
theorem mix {H : List Blk} {f g h : Nat → Int} {fn : Nat} {cs : List V} (hop : ∀ j, j < 12 → ∀ L, Cal Try.prog fn (.v (.int .u16 (f j)) :: .v (.int .u16 (g j)) :: cs) (H ++ L) fun v H' => v = .v (.int .u16 (h j)) ∧ H' = H ++ L) :
    Cal Try.prog 132 [.a (rowL .u16 12 (f)), .a (rowL .u16 12 (g)), .f fn cs] H fun v H' => v = .a (rowL .u16 12 (h)) ∧ H' = H := by
  refine cal_fn 21 mixed Try.func132 Try.ntmps132 Try.results132 rfl rfl rfl fun hw cx hx hq => ?_
  simp only [go_sem, rowL_rep]
  refine WK_for (fun n : Nat => ⟨[.a (rowL .u16 12 (f)), .a (rowL .u16 12 (g)), .f fn cs, .p H.length 0, .p (H.length + 1) 0, .any, .p (H.length + 2) 0, .any, .any, .a (rowL .u16 12 (f)), .v (.int .i64 n)] ++ junk 13, H ++ [⟨rowL .u16 12 (pfx h f n), 64, .fix⟩, ⟨rowL .u16 12 (g), 64, .fix⟩, ⟨rowL .u16 12 (fun _ => 0), 64, .fix⟩]⟩) (fun n => n ≤ 12) (fun n => 12 - n) 0 (Weak.slots ?_) ?_ fun n hn => ?_
  · simp [go_sem]
  · simp
  rcases Int.lt_or_le (n : Int) 12 with hc | hc
  · have hj : n < 12 := by omega
    simp only [go_sem, hc, rowL_cel _ _ _ hj]
    repeat (refine And.intro (by omega) ?_)
    refine call_ret (hop n hj _) (by simp only [go_sem]) ?_
    simp only [go_sem]
    repeat (refine And.intro (by omega) ?_)
    refine EK_again (n + 1) ?_ (by omega) (by omega)
    rw [wr_pfx .u16 h f hj rfl]
    exact Weak.slots (by simp [go_sem])
  · have : n = 12 := by omega
    subst this
    simp only [go_sem, Int.not_lt.2 hc, pfx_all]
    refine ret_cut hq hw _ (.inl rfl) ?_
    simp only [go_sem]
end Go.Proofs.Ytjkkallcgplgmaa

