/- Contracts of functions of the translated program, by the walk. -/
import Derived.Test.YtjkkallcgplgmaaR1e
import Derived.Test.YtjkkallcgplgmaaLD
set_option linter.unusedVariables false
set_option linter.unusedSimpArgs false
set_option maxRecDepth 8000
set_option maxHeartbeats 4000000
namespace Go.Proofs.Ytjkkallcgplgmaa
open Go Go.Sx
theorem l00In {H : List Blk} {n lo hi : Int} : Cal Try.prog 64 [.v (.int .i64 n), .v (.int .i64 lo), .v (.int .i64 hi)] H fun v H' => v = .v (.bool (decide (lo ≤ n) && decide (n ≤ hi))) ∧ H' = H := by
  refine cal_fn 12 mixed Try.func64 Try.ntmps64 Try.results64 rfl rfl rfl fun hw cx hx hq => ?_
  by_cases h1 : lo ≤ n
  · simp only [go_sem, h1]
    refine ret_same hq _ (.inl rfl) ?_
    simp [go_sem, h1]
  · simp only [go_sem, h1]
    refine ret_same hq _ (.inl rfl) ?_
    simp [go_sem, h1]
theorem inRange {H : List Blk} {n lo hi : Int} : Cal Try.prog 98 [.v (.int .i64 n), .v (.int .i64 lo), .v (.int .i64 hi)] H fun v H' => v = .v (.bool (decide (lo ≤ n) && decide (n ≤ hi))) ∧ H' = H := by
  refine cal_fn 12 mixed Try.func98 Try.ntmps98 Try.results98 rfl rfl rfl fun hw cx hx hq => ?_
  by_cases h1 : lo ≤ n
  · simp only [go_sem, h1]
    refine ret_same hq _ (.inl rfl) ?_
    simp [go_sem, h1]
  · simp only [go_sem, h1]
    refine ret_same hq _ (.inl rfl) ?_
    simp [go_sem, h1]
theorem l01Place {H : List Blk} {a b : Int} : Cal Try.prog 135 [.v (.int .i64 a), .v (.int .i64 b)] H fun v H' => v = .v (.bool (placeB a b)) ∧ H' = H := by
  refine cal_fn 9 mixed Try.func135 Try.ntmps135 Try.results135 rfl rfl rfl fun hw cx hx hq => ?_
  simp only [go_sem]
  refine call_ret l00In (by simp only [go_sem]) ?_
  cases e : (decide (0 ≤ a) && decide (a ≤ 11))
  · simp only [go_sem]
    refine ret_same hq _ (.inl rfl) ?_
    simp [go_sem, placeB, e]
  · simp only [go_sem]
    refine call_ret l00In (by simp only [go_sem]) ?_
    simp only [go_sem]
    refine ret_same hq _ (.inl rfl) ?_
    simp [go_sem, placeB, e]
theorem l01Has {H : List Blk} {i off : Nat} {f : Nat → Int} {b : Blk} {a c : Int} (h : At H i off (rowL .u16 12 (f)) b) (hf : R16 f) : Cal Try.prog 117 [.p i off, .v (.int .i64 a), .v (.int .i64 c)] H fun v H' => v = .v (.bool (hasF f a c)) ∧ H' = H := by
  refine cal_fn 19 mixed Try.func117 Try.ntmps117 Try.results117 rfl rfl rfl fun hw cx hx hq => ?_
  simp only [go_sem]
  refine call_ret l01Place (by simp only [go_sem]) ?_
  cases e : placeB a c
  · simp only [go_sem]
    refine ret_same hq _ (.inl rfl) ?_
    simp [go_sem, hasF, e]
  · have e' := placeB_iff.1 e
    have hlen := h.len (by simp [go_sem])
    simp only [go_sem] at hlen
    have h16 := hf c.toNat (by omega)
    simp only [go_sem, h.get, h.live, h.cel (show c.toNat < 12 by omega)]
    have hwr : IntKind.u64.wrap a = a := wrap_u64 (by omega) (by omega)
    repeat (refine And.intro (by omega) ?_)
    refine ret_same hq _ (.inl rfl) ?_
    simp only [go_sem, hasF, e, shr_dot h16.1 e'.1.1 (by omega), dot]
/-- The cells of a dot, by its number. -/
def dotL (k : Nat) : List V := [.v (.int .i8 ((k % 12 : Nat) : Int)), .v (.int .i8 ((k / 12 : Nat) : Int))]
theorem dotL_len (k : Nat) : (dotL k).length = 2 := rfl
theorem wrap_i8 {x : Int} (h : -128 ≤ x) (h2 : x ≤ 127) : IntKind.i8.wrap x = x := by
  unfold IntKind.wrap
  simp only [IntKind.bits, IntKind.signed, Bool.true_and]
  split <;> rename_i hc <;> simp only [decide_eq_true_eq, ge_iff_le] at hc <;> omega
theorem dots_lts (m : Nat) (l : List Nat) : lts m (l.flatMap dotL) := by
  rw [lts_iff]; intro v hv
  obtain ⟨k, _, hk⟩ := List.mem_flatMap.1 hv
  simp [dotL] at hk
  rcases hk with rfl | rfl <;> rfl
theorem l01Dots {H : List Blk} {i off : Nat} {f : Nat → Int} {b : Blk} (h : At H i off (rowL .u16 12 (f)) b) (hf : R16 f) :
    Cal Try.prog 143 [.p i off] H fun v H' => v = .s H.length 0 (dotsF f).length (.u 0) ∧ H' = H ++ [⟨(dotsF f).flatMap dotL, 134, .own 2⟩] := by
  refine cal_fn 27 mixed Try.func143 Try.ntmps143 Try.results143 rfl rfl rfl fun hw cx hx hq => ?_
  simp only [go_sem]
  repeat (refine And.intro (by omega) ?_)
  refine WK_for (fun y : Nat => ⟨[.p i off, .any, .any, .s H.length 0 (dotsTo f (y * 12)).length (.u 0), .v (.int .i64 y)] ++ junk 23, H ++ [⟨(dotsTo f (y * 12)).flatMap dotL, 134, .own 2⟩]⟩) (fun y => y ≤ 12) (fun y => 12 - y) 0 (Weak.slots ?_) ?_ fun y hy => ?_
  · simp [go_sem, dotsTo]
  · simp
  rcases Int.lt_or_le (y : Int) 12 with hc | hc
  · simp only [go_sem, hc]
    refine WK_for (fun z : Nat => ⟨[.p i off, .any, .any, .s H.length 0 (dotsTo f (y * 12 + z)).length (.u 0), .v (.int .i64 y), .v (.int .i64 z)] ++ junk 22, H ++ [⟨(dotsTo f (y * 12 + z)).flatMap dotL, 134, .own 2⟩]⟩) (fun z => z ≤ 12) (fun z => 12 - z) 0 (Weak.slots ?_) ?_ fun z hz => ?_
    · simp [go_sem]
    · simp
    rcases Int.lt_or_le (z : Int) 12 with hc2 | hc2
    · simp only [go_sem, hc2]
      refine call_ret (l01Has h.app hf) (by simp only [go_sem]) ?_
      have hdot : hasF f z y = dot f z y := by simp [hasF, placeB]; omega
      have hk1 : (y * 12 + z) % 12 = z := by omega
      have hk2 : (y * 12 + z) / 12 = y := by omega
      have hsucc := dotsTo_succ f (y * 12 + z)
      rw [hk1, hk2] at hsucc
      have hlen := dotsTo_len f (y * 12 + z)
      cases e : dot f z y
      · rw [hdot, e]
        simp only [go_sem]
        repeat (refine And.intro (by omega) ?_)
        have e2 : dotsTo f (y * 12 + (z + 1)) = dotsTo f (y * 12 + z) := by rw [← Nat.add_assoc, hsucc, e]; simp
        refine EK_again (z + 1) ?_ (by omega) (by omega)
        simp only [e2]
        exact Weak.slots (by simp [go_sem])
      · rw [hdot, e]
        have e2 : dotsTo f (y * 12 + (z + 1)) = dotsTo f (y * 12 + z) ++ [y * 12 + z] := by rw [← Nat.add_assoc, hsucc, e]; simp
        have hl2 := flat_len dotL 2 dotL_len (dotsTo f (y * 12 + z))
        have hn : norefH H.length H := norefH_wf hw (Nat.le_refl _)
        have hn2 : norefs H.length ((dotsTo f (y * 12 + z)).flatMap dotL) = true := lts_norefs (Nat.le_refl _) _ (dots_lts _ _)
        have hij : (i = H.length) = False := eq_false (by have := h.lt; omega)
        simp only [go_sem, wrap_i8 (show (-128 : Int) ≤ z by omega) (by omega), wrap_i8 (show (-128 : Int) ≤ y by omega) (by omega), hl2, hn, hn2, hij, hx]
        repeat (refine And.intro (by omega) ?_)
        refine EK_again (z + 1) ?_ (by omega) (by omega)
        have e3 : (dotsTo f (y * 12 + z) ++ [y * 12 + z]).flatMap dotL = (dotsTo f (y * 12 + z)).flatMap dotL ++ [.v (.int .i8 z), .v (.int .i8 y)] := by
          rw [List.flatMap_append]; simp [dotL, hk1, hk2]
        simp only [e2, e3]
        refine Weak.both (H := H ++ [⟨(dotsTo f (y * 12 + z)).flatMap dotL ++ [.v (.int .i8 z), .v (.int .i8 y)], 134, .own 2⟩]) (L := [⟨[.v (.int .i8 z), .v (.int .i8 y)], 134, .own 2⟩]) ?_ ?_ ?_ ?_ (hw.one ?_)
        · simp
        · simp [go_sem]
        · simp [hx]
        · have := h.lt
          simp only [go_sem, List.length_append, List.length_cons, List.length_nil]
          omega
        · simp [go_sem, dots_lts]
    · have : z = 12 := by omega
      subst this
      simp only [go_sem, Int.not_lt.2 hc2]
      have e2 : y * 12 + 12 = (y + 1) * 12 := by omega
      repeat (refine And.intro (by omega) ?_)
      refine EK_again (y + 1) ?_ (by omega) (by omega)
      simp only [e2]
      exact Weak.slots (by simp [go_sem])
  · have : y = 12 := by omega
    subst this
    simp only [go_sem, Int.not_lt.2 hc]
    refine ret_at hq _ (.inl rfl) (by simp) ?_
    simp only [go_sem, dotsF]

theorem okF_f12 {f : Nat → Int} (h : okF f = true) (hf : R16 f) : F12 f := fun j hj => ⟨(hf j hj).1, (okF_iff f).1 h j hj⟩
theorem elem_dots {l : List Nat} {n : Nat} (hn : n < l.length) : cel (l.flatMap dotL) (n * 2) = .v (.int .i8 ((l[n] % 12 : Nat) : Int)) ∧ cel (l.flatMap dotL) (n * 2 + 1) = .v (.int .i8 ((l[n] / 12 : Nat) : Int)) := by
  have h := flat_seg dotL 2 dotL_len l n hn
  exact ⟨cel_of_seg (j := 0) h (by omega), cel_of_seg (j := 1) h (by omega)⟩
end Go.Proofs.Ytjkkallcgplgmaa

