/- Contracts of functions of the translated program, by the walk. -/
import Derived.Test.YtpginknbmmdmoaaR1b
set_option linter.unusedVariables false
set_option linter.unusedSimpArgs false
set_option maxRecDepth 8000
set_option maxHeartbeats 4000000
namespace Go.Proofs.Ytpginknbmmdmoaa
open Go Go.Sx
def joinF (f g : Nat → Int) (j : Nat) : Int := bits .or .u16 (f j) (g j)
def meetF (f g : Nat → Int) (j : Nat) : Int := bits .and .u16 (f j) (g j)
def mostF (f g h : Nat → Int) (j : Nat) : Int := bits .or .u16 (bits .or .u16 (bits .and .u16 (f j) (g j)) (bits .and .u16 (f j) (h j))) (bits .and .u16 (g j) (h j))
theorem join1 {H : List Blk} {x y : Int} : Cal Try.prog 172 [.v (.int .u16 x), .v (.int .u16 y)] H fun v H' => v = .v (.int .u16 (bits .or .u16 x y)) ∧ H' = H := by
  refine cal_fn 6 mixed Try.func172 Try.ntmps172 Try.results172 rfl rfl rfl fun hw x hx hq => ?_
  simp only [go_sem]
  refine ret_same hq _ (.inl rfl) ?_
  simp only [go_sem]
theorem join {H : List Blk} {f g : Nat → Int} : Cal Try.prog 151 [.a (rowL .u16 12 (f)), .a (rowL .u16 12 (g))] H fun v H' => v = .a (rowL .u16 12 (joinF f g)) ∧ H' = H := by
  refine cal_fn 6 mixed Try.func151 Try.ntmps151 Try.results151 rfl rfl rfl fun hw x hx hq => ?_
  simp only [go_sem, rowL_rep]
  repeat (refine And.intro (by omega) ?_)
  refine call_ret (mix (h := joinF f g) fun j _ L => join1) (by simp only [go_sem]) ?_
  simp only [go_sem]
  repeat (refine And.intro (by omega) ?_)
  refine ret_cut hq hw _ (.inl rfl) ?_
  simp only [go_sem]

theorem meet1 {H : List Blk} {x y : Int} : Cal Try.prog 171 [.v (.int .u16 x), .v (.int .u16 y)] H fun v H' => v = .v (.int .u16 (bits .and .u16 x y)) ∧ H' = H := by
  refine cal_fn 6 mixed Try.func171 Try.ntmps171 Try.results171 rfl rfl rfl fun hw x hx hq => ?_
  simp only [go_sem]
  refine ret_same hq _ (.inl rfl) ?_
  simp only [go_sem]
theorem meet {H : List Blk} {f g : Nat → Int} : Cal Try.prog 147 [.a (rowL .u16 12 (f)), .a (rowL .u16 12 (g))] H fun v H' => v = .a (rowL .u16 12 (meetF f g)) ∧ H' = H := by
  refine cal_fn 6 mixed Try.func147 Try.ntmps147 Try.results147 rfl rfl rfl fun hw x hx hq => ?_
  simp only [go_sem, rowL_rep]
  repeat (refine And.intro (by omega) ?_)
  refine call_ret (mix (h := meetF f g) fun j _ L => meet1) (by simp only [go_sem]) ?_
  simp only [go_sem]
  repeat (refine And.intro (by omega) ?_)
  refine ret_cut hq hw _ (.inl rfl) ?_
  simp only [go_sem]
theorem l04Most {H : List Blk} {i off j o2 i3 o3 : Nat} {f g e : Nat → Int} {b b2 b3 : Blk} (h : At H i off (rowL .u16 12 (f)) b) (h2 : At H j o2 (rowL .u16 12 (g)) b2) (h3 : At H i3 o3 (rowL .u16 12 (e)) b3) : Cal Try.prog 94 [.p i off, .p j o2, .p i3 o3] H fun v H' => v = .a (rowL .u16 12 (mostF f g e)) ∧ H' = H := by
  refine cal_fn 49 mixed Try.func94 Try.ntmps94 Try.results94 rfl rfl rfl fun hw x hx hq => ?_
  simp only [go_sem, rowL_rep]
  refine WK_for (fun n : Nat => ⟨[.p i off, .p j o2, .p i3 o3, .any, .any, .any, .p H.length 0, .p (H.length + 1) 0, .v (.int .i64 n)] ++ junk 43, H ++ [⟨rowL .u16 12 (fun _ => 0), 24, .fix⟩, ⟨rowL .u16 12 (pfx (mostF f g e) (fun _ => 0) n), 24, .fix⟩]⟩) (fun n => n ≤ 12) (fun n => 12 - n) 0 (Weak.slots ?_) ?_ fun n hn => ?_
  · simp [go_sem]
  · simp
  rcases Int.lt_or_le (n : Int) 12 with hc | hc
  · have hj : n < 12 := by omega
    simp only [go_sem, hc]
    refine DK_all _ _ _ [[],[],[],[1],[1,2,3],[1,2,3,4],[],[],[6],[6,7,8],[6,7,8,9],[1,2,3,4,5,6,7,8,9,10],[],[],[12],[12,13,14],[12,13,14,15],[],[],[17],[17,18,19],[17,18,19,20],[12,13,14,15,16,17,18,19,20,21],[1,2,3,4,5,6,7,8,9,10,11,12,13,14,15,16,17,18,19,20,21,22],[],[],[24],[24,25,26],[24,25,26,27],[],[],[29],[29,30,31],[29,30,31,32],[24,25,26,27,28,29,30,31,32,33],[1,2,3,4,5,6,7,8,9,10,11,12,13,14,15,16,17,18,19,20,21,22,23,24,25,26,27,28,29,30,31,32,33,34],[0,1,2,3,4,5,6,7,8,9,10,11,12,13,14,15,16,17,18,19,20,21,22,23,24,25,26,27,28,29,30,31,32,33,34,35],[0,1,2,3,4,5,6,7,8,9,10,11,12,13,14,15,16,17,18,19,20,21,22,23,24,25,26,27,28,29,30,31,32,33,34,35,36]] (by kernel_rfl) ?_
    simp only [go_sem, h.lt, h.get, h.live, h.cel hj, h2.lt, h2.get, h2.live, h2.cel hj, h3.lt, h3.get, h3.live, h3.cel hj]
    have := h.len (by simp [go_sem])
    have := h2.len (by simp [go_sem])
    have := h3.len (by simp [go_sem])
    simp only [go_sem] at *
    repeat (refine And.intro (by omega) ?_)
    refine EK_again (n + 1) ?_ (by omega) (by omega)
    have hwr := wr_pfx .u16 (mostF f g e) (fun _ => 0) hj rfl
    simp only [mostF] at hwr
    rw [hwr]
    exact Weak.slots (by simp [go_sem])
  · have : n = 12 := by omega
    subst this
    simp only [go_sem, Int.not_lt.2 hc, pfx_all]
    refine ret_cut hq hw _ (.inl rfl) ?_
    simp only [go_sem]

theorem toFrame {H : List Blk} {f : Nat → Int} : Cal Try.prog 16 [.a (rowL .u16 12 (f))] H fun v H' => v = .a (rowL .u16 12 (f)) ∧ H' = H := by
  refine cal_fn 14 mixed Try.func16 Try.ntmps16 Try.results16 rfl rfl rfl fun hw x hx hq => ?_
  simp only [go_sem, rowL_rep]
  refine WK_for (fun n : Nat => ⟨[.a (rowL .u16 12 (f)), .p H.length 0, .p (H.length + 1) 0, .p (H.length + 2) 0, .v (.int .i64 n)] ++ junk 10, H ++ [⟨rowL .u16 12 (f), 23, .fix⟩, ⟨rowL .u16 12 (fun _ => 0), 24, .fix⟩, ⟨rowL .u16 12 (pfx f (fun _ => 0) n), 24, .fix⟩]⟩) (fun n => n ≤ 12) (fun n => 12 - n) 0 (Weak.slots ?_) ?_ fun n hn => ?_
  · simp [go_sem]
  · simp
  rcases Int.lt_or_le (n : Int) 12 with hc | hc
  · have hj : n < 12 := by omega
    simp only [go_sem, hc, rowL_cel _ _ _ hj]
    repeat (refine And.intro (by omega) ?_)
    refine EK_again (n + 1) ?_ (by omega) (by omega)
    rw [wr_pfx .u16 f _ hj rfl]
    exact Weak.slots (by simp [go_sem])
  · have : n = 12 := by omega
    subst this
    simp only [go_sem, Int.not_lt.2 hc, pfx_all]
    refine ret_cut hq hw _ (.inl rfl) ?_
    simp only [go_sem]
theorem eqFrame {H : List Blk} {f g : Nat → Int} : Cal Try.prog 18 [.a (rowL .u16 12 (f)), .a (rowL .u16 12 (g))] H fun v H' => v = .v (.bool (allEq 12 f g)) ∧ H' = H := by
  refine cal_fn 15 mixed Try.func18 Try.ntmps18 Try.results18 rfl rfl rfl fun hw x hx hq => ?_
  simp only [go_sem]
  refine WK_for (fun n : Nat => ⟨[.a (rowL .u16 12 (f)), .a (rowL .u16 12 (g)), .p H.length 0, .p (H.length + 1) 0, .v (.bool false), .v (.int .i64 n)] ++ junk 11, H ++ [⟨rowL .u16 12 (f), 24, .fix⟩, ⟨rowL .u16 12 (g), 24, .fix⟩]⟩) (fun n => n ≤ 12 ∧ ∀ j, j < n → f j = g j) (fun n => 12 - n) 0 (Weak.slots ?_) ?_ fun n hn => ?_
  · simp [go_sem]
  · simp
  rcases Int.lt_or_le (n : Int) 12 with hc | hc
  · have hj : n < 12 := by omega
    simp only [go_sem, hc]
    refine DK_all _ _ _ [[],[0],[0,1],[],[3],[3,4],[0,1,2,3,4,5]] (by kernel_rfl) ?_
    simp only [go_sem, rowL_cel _ _ _ hj]
    repeat (refine And.intro (by omega) ?_)
    refine ⟨fun e => ?_, fun e => ?_⟩
    · refine ret_cut hq hw _ (.inl rfl) ?_
      simp only [go_sem]
      have : allEq 12 f g = false := by
        rw [Bool.eq_false_iff]; intro h3; exact e (allEq_iff.1 h3 n hj)
      rw [this]
    · repeat (refine And.intro (by omega) ?_)
      refine EK_again (n + 1) (Weak.slots (by simp [go_sem])) ⟨by omega, fun j hj => ?_⟩ (by omega)
      by_cases e2 : j = n
      · subst e2; exact e
      · exact hn.2 j (by omega)
  · have : n = 12 := by omega
    subst this
    simp only [go_sem, Int.not_lt.2 hc]
    refine ret_cut hq hw _ (.inl rfl) ?_
    simp only [go_sem]
    rw [allEq_iff.2 hn.2]
end Go.Proofs.Ytpginknbmmdmoaa

