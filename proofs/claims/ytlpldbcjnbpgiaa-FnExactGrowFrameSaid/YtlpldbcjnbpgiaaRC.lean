/- Contracts of functions of the translated program, by the walk. -/
import Derived.Test.YtlpldbcjnbpgiaaRB
set_option linter.unusedVariables false
set_option linter.unusedSimpArgs false
namespace Go.Proofs.Ytlpldbcjnbpgiaa
open Go Go.Sx
def joinF (f g : Nat → Int) (j : Nat) : Int := bits .or .u16 (f j) (g j)
def meetF (f g : Nat → Int) (j : Nat) : Int := bits .and .u16 (f j) (g j)
def mostF (f g h : Nat → Int) (j : Nat) : Int := bits .or .u16 (bits .or .u16 (bits .and .u16 (f j) (g j)) (bits .and .u16 (f j) (h j))) (bits .and .u16 (g j) (h j))
theorem cel0 (f : Nat → Int) : rowL .u16 24 f = rowL .u16 12 f ++ rowL .u16 12 (fun j => f (12 + j)) := rowL_split .u16 12 12 f
theorem okV24 (f g : Nat → Int) : okV (List.replicate 24 (.i .u16)) (rowL .u16 12 f ++ rowL .u16 12 g) = true := rowL_okV2 .u16 12 12 f g
theorem eqL24 (f g f' g' : Nat → Int) : eqL (rowL .u16 12 f ++ rowL .u16 12 g) (rowL .u16 12 f' ++ rowL .u16 12 g') = (allEq 12 f f' && allEq 12 g g') := by rw [rowL_eqL2, rowL_eqL]

theorem less1 {H : List Blk} {x y : Int} : Cal Try.prog 50 [.v (.int .u16 x), .v (.int .u16 y)] H fun v H' => v = .v (.int .u16 (bits .andNot .u16 x y)) ∧ H' = H := by
  refine cal_fn 6 mixed Try.func50 Try.ntmps50 Try.results50 rfl rfl rfl fun hw x hx hq => ?_
  simp only [go_sem]
  refine ret_same hq _ (.inl rfl) ?_
  simp only [go_sem]
theorem less {H : List Blk} {f g : Nat → Int} : Cal Try.prog 30 [.a (rowL .u16 12 (f)), .a (rowL .u16 12 (g))] H fun v H' => v = .a (rowL .u16 12 (lessF f g)) ∧ H' = H := by
  refine cal_fn 6 mixed Try.func30 Try.ntmps30 Try.results30 rfl rfl rfl fun hw x hx hq => ?_
  simp only [go_sem, rowL_rep]
  repeat (refine And.intro (by omega) ?_)
  refine call_ret (mix (h := lessF f g) fun j _ L => less1) (by simp only [go_sem]) ?_
  simp only [go_sem]
  repeat (refine And.intro (by omega) ?_)
  refine ret_cut hq hw _ (.inl rfl) ?_
  simp only [go_sem]

theorem join1 {H : List Blk} {x y : Int} : Cal Try.prog 52 [.v (.int .u16 x), .v (.int .u16 y)] H fun v H' => v = .v (.int .u16 (bits .or .u16 x y)) ∧ H' = H := by
  refine cal_fn 6 mixed Try.func52 Try.ntmps52 Try.results52 rfl rfl rfl fun hw x hx hq => ?_
  simp only [go_sem]
  refine ret_same hq _ (.inl rfl) ?_
  simp only [go_sem]
theorem join {H : List Blk} {f g : Nat → Int} : Cal Try.prog 36 [.a (rowL .u16 12 (f)), .a (rowL .u16 12 (g))] H fun v H' => v = .a (rowL .u16 12 (joinF f g)) ∧ H' = H := by
  refine cal_fn 6 mixed Try.func36 Try.ntmps36 Try.results36 rfl rfl rfl fun hw x hx hq => ?_
  simp only [go_sem, rowL_rep]
  repeat (refine And.intro (by omega) ?_)
  refine call_ret (mix (h := joinF f g) fun j _ L => join1) (by simp only [go_sem]) ?_
  simp only [go_sem]
  repeat (refine And.intro (by omega) ?_)
  refine ret_cut hq hw _ (.inl rfl) ?_
  simp only [go_sem]

theorem meet1 {H : List Blk} {x y : Int} : Cal Try.prog 60 [.v (.int .u16 x), .v (.int .u16 y)] H fun v H' => v = .v (.int .u16 (bits .and .u16 x y)) ∧ H' = H := by
  refine cal_fn 6 mixed Try.func60 Try.ntmps60 Try.results60 rfl rfl rfl fun hw x hx hq => ?_
  simp only [go_sem]
  refine ret_same hq _ (.inl rfl) ?_
  simp only [go_sem]
theorem meet {H : List Blk} {f g : Nat → Int} : Cal Try.prog 51 [.a (rowL .u16 12 (f)), .a (rowL .u16 12 (g))] H fun v H' => v = .a (rowL .u16 12 (meetF f g)) ∧ H' = H := by
  refine cal_fn 6 mixed Try.func51 Try.ntmps51 Try.results51 rfl rfl rfl fun hw x hx hq => ?_
  simp only [go_sem, rowL_rep]
  repeat (refine And.intro (by omega) ?_)
  refine call_ret (mix (h := meetF f g) fun j _ L => meet1) (by simp only [go_sem]) ?_
  simp only [go_sem]
  repeat (refine And.intro (by omega) ?_)
  refine ret_cut hq hw _ (.inl rfl) ?_
  simp only [go_sem]
theorem l01Join {H : List Blk} {i off j o2 : Nat} {f g : Nat → Int} {b b2 : Blk} (h : At H i off (rowL .u16 12 (f)) b) (h2 : At H j o2 (rowL .u16 12 (g)) b2) : Cal Try.prog 35 [.p i off, .p j o2] H fun v H' => v = .a (rowL .u16 12 (joinF f g)) ∧ H' = H := by
  refine cal_fn 24 mixed Try.func35 Try.ntmps35 Try.results35 rfl rfl rfl fun hw x hx hq => ?_
  simp only [go_sem, rowL_rep]

  refine WK_for (fun n : Nat => ⟨[.p i off, .p j o2, .any, .any, .p H.length 0, .p (H.length + 1) 0, .v (.int .i64 n)] ++ junk 19, H ++ [⟨rowL .u16 12 (fun _ => 0), 27, .fix⟩, ⟨rowL .u16 12 (pfx (joinF f g) (fun _ => 0) n), 27, .fix⟩]⟩) (fun n => n ≤ 12) (fun n => 12 - n) 0 (Weak.slots ?_) ?_ fun n hn => ?_
  · simp [go_sem, pfx_zero]
  · simp
  rcases Int.lt_or_le (n : Int) 12 with hc | hc
  · simp only [go_sem, hc]
    refine DK_all _ _ _ [[],[],[],[1],[1,2,3],[1,2,3,4],[],[],[6],[6,7,8],[6,7,8,9],[1,2,3,4,5,6,7,8,9,10],[0,1,2,3,4,5,6,7,8,9,10,11],[0,1,2,3,4,5,6,7,8,9,10,11,12]] (by kernel_rfl) ?_
    simp only [go_sem, h.lt, h.get, h.live, h.cel (show n < 12 by omega), h2.lt, h2.get, h2.live, h2.cel (show n < 12 by omega)]
    have := h.len (by simp [go_sem])
    have := h2.len (by simp [go_sem])
    simp only [go_sem] at *
    repeat (refine And.intro (by omega) ?_)
    refine EK_again (n + 1) ?_ (by omega) (by omega)
    rw [wr_pfx .u16 (joinF f g) _ (show n < 12 by omega) (show bits .or .u16 (f n) (g n) = joinF f g n from rfl)]
    exact Weak.slots (by simp [go_sem])
  · have : n = 12 := by omega
    subst this
    simp only [go_sem, Int.not_lt.2 hc, pfx_all]
    refine ret_cut hq hw _ (.inl rfl) ?_
    simp only [go_sem]

theorem l04Most {H : List Blk} {i off j o2 i3 o3 : Nat} {f g e : Nat → Int} {b b2 b3 : Blk} (h : At H i off (rowL .u16 12 (f)) b) (h2 : At H j o2 (rowL .u16 12 (g)) b2) (h3 : At H i3 o3 (rowL .u16 12 (e)) b3) : Cal Try.prog 32 [.p i off, .p j o2, .p i3 o3] H fun v H' => v = .a (rowL .u16 12 (mostF f g e)) ∧ H' = H := by
  refine cal_fn 49 mixed Try.func32 Try.ntmps32 Try.results32 rfl rfl rfl fun hw x hx hq => ?_
  simp only [go_sem, rowL_rep]
  refine WK_for (fun n : Nat => ⟨[.p i off, .p j o2, .p i3 o3, .any, .any, .any, .p H.length 0, .p (H.length + 1) 0, .v (.int .i64 n)] ++ junk 43, H ++ [⟨rowL .u16 12 (fun _ => 0), 27, .fix⟩, ⟨rowL .u16 12 (pfx (mostF f g e) (fun _ => 0) n), 27, .fix⟩]⟩) (fun n => n ≤ 12) (fun n => 12 - n) 0 (Weak.slots ?_) ?_ fun n hn => ?_
  · simp [go_sem]
  · simp
  rcases Int.lt_or_le (n : Int) 12 with hc | hc
  · have hj : n < 12 := by omega
    simp only [go_sem, hc]
    refine DK_all _ _ _ [[],[],[],[1],[1,2,3],[1,2,3,4],[],[],[6],[6,7,8],[6,7,8,9],[1,2,3,4,5,6,7,8,9,10],[],[],[12],[12,13,14],[12,13,14,15],[],[],[17],[17,18,19],[17,18,19,20],[12,13,14,15,16,17,18,19,20,21],[1,2,3,4,5,6,7,8,9,10,11,12,13,14,15,16,17,18,19,20,21,22],[],[],[24],[24,25,26],[24,25,26,27],[],[],[29],[29,30,31],[29,30,31,32],[24,25,26,27,28,29,30,31,32,33],[1,2,3,4,5,6,7,8,9,10,11,12,13,14,15,16,17,18,19,20,21,22,23,24,25,26,27,28,29,30,31,32,33,34],[0,1,2,3,4,5,6,7,8,9,10,11,12,13,14,15,16,17,18,19,20,21,22,23,24,25,26,27,28,29,30,31,32,33,34,35],[0,1,2,3,4,5,6,7,8,9,10,11,12,13,14,15,16,17,18,19,20,21,22,23,24,25,26,27,28,29,30,31,32,33,34,35,36]] (by kernel_rfl) ?_
    simp only [go_sem, h.lt, h.get, h.live, h.cel hj, h2.lt, h2.get, h2.live, h2.cel hj, h3.lt, h3.get, h3.live, h3.cel hj]
    have := h.len (by simp [go_sem])
    have := h2.len (by simp [go_sem])
    have := h3.len (by simp [go_sem])
    simp only [go_sem] at *
    repeat (refine And.intro (by omega) ?_)
    refine EK_again (n + 1) ?_ (by omega) (by omega)
    have hwr := wr_pfx .u16 (mostF f g e) (fun _ => 0) hj rfl
    simp only [mostF] at hwr
    rw [hwr]
    exact Weak.slots (by simp [go_sem])
  · have : n = 12 := by omega
    subst this
    simp only [go_sem, Int.not_lt.2 hc, pfx_all]
    refine ret_cut hq hw _ (.inl rfl) ?_
    simp only [go_sem]

theorem l01Both {H : List Blk} {i off j o2 : Nat} {f g : Nat → Int} {b b2 : Blk} (h : At H i off (rowL .u16 12 (f)) b) (h2 : At H j o2 (rowL .u16 12 (g)) b2) : Cal Try.prog 34 [.p i off, .p j o2] H fun v H' => v = .v (.int .i64 (if (okF f && okF g) = true then 0 else 1)) ∧ H' = H := by
  refine cal_fn 11 mixed Try.func34 Try.ntmps34 Try.results34 rfl rfl rfl fun hw x hx hq => ?_
  simp only [go_sem]
  refine call_ret (l01Ok h) (by simp only [go_sem]) ?_
  cases e : okF f
  · simp only [go_sem]
    refine ret_same hq _ (.inl rfl) ?_
    simp [go_sem, e]
  · simp only [go_sem]
    refine call_ret (l01Ok h2) (by simp only [go_sem]) ?_
    cases e2 : okF g <;> simp only [go_sem] <;> refine ret_same hq _ (.inl rfl) ?_ <;> simp [go_sem, e, e2]

theorem toFrame {H : List Blk} {f : Nat → Int} : Cal Try.prog 14 [.a (rowL .u16 12 (f))] H fun v H' => v = .a (rowL .u16 12 (f)) ∧ H' = H := by
  refine cal_fn 14 mixed Try.func14 Try.ntmps14 Try.results14 rfl rfl rfl fun hw x hx hq => ?_
  simp only [go_sem, rowL_rep]
  refine WK_for (fun n : Nat => ⟨[.a (rowL .u16 12 (f)), .p H.length 0, .p (H.length + 1) 0, .p (H.length + 2) 0, .v (.int .i64 n)] ++ junk 10, H ++ [⟨rowL .u16 12 (f), 23, .fix⟩, ⟨rowL .u16 12 (fun _ => 0), 27, .fix⟩, ⟨rowL .u16 12 (pfx f (fun _ => 0) n), 27, .fix⟩]⟩) (fun n => n ≤ 12) (fun n => 12 - n) 0 (Weak.slots ?_) ?_ fun n hn => ?_
  · simp [go_sem]
  · simp
  rcases Int.lt_or_le (n : Int) 12 with hc | hc
  · have hj : n < 12 := by omega
    simp only [go_sem, hc, rowL_cel _ _ _ hj]
    repeat (refine And.intro (by omega) ?_)
    refine EK_again (n + 1) ?_ (by omega) (by omega)
    rw [wr_pfx .u16 f _ hj rfl]
    exact Weak.slots (by simp [go_sem])
  · have : n = 12 := by omega
    subst this
    simp only [go_sem, Int.not_lt.2 hc, pfx_all]
    refine ret_cut hq hw _ (.inl rfl) ?_
    simp only [go_sem]
theorem eqFrame {H : List Blk} {f g : Nat → Int} : Cal Try.prog 16 [.a (rowL .u16 12 (f)), .a (rowL .u16 12 (g))] H fun v H' => v = .v (.bool (allEq 12 f g)) ∧ H' = H := by
  refine cal_fn 15 mixed Try.func16 Try.ntmps16 Try.results16 rfl rfl rfl fun hw x hx hq => ?_
  simp only [go_sem]
  refine WK_for (fun n : Nat => ⟨[.a (rowL .u16 12 (f)), .a (rowL .u16 12 (g)), .p H.length 0, .p (H.length + 1) 0, .v (.bool false), .v (.int .i64 n)] ++ junk 11, H ++ [⟨rowL .u16 12 (f), 27, .fix⟩, ⟨rowL .u16 12 (g), 27, .fix⟩]⟩) (fun n => n ≤ 12 ∧ ∀ j, j < n → f j = g j) (fun n => 12 - n) 0 (Weak.slots ?_) ?_ fun n hn => ?_
  · simp [go_sem]
  · simp
  rcases Int.lt_or_le (n : Int) 12 with hc | hc
  · have hj : n < 12 := by omega
    simp only [go_sem, hc]
    refine DK_all _ _ _ [[],[0],[0,1],[],[3],[3,4],[0,1,2,3,4,5]] (by kernel_rfl) ?_
    simp only [go_sem, rowL_cel _ _ _ hj]
    repeat (refine And.intro (by omega) ?_)
    refine ⟨fun e => ?_, fun e => ?_⟩
    · refine ret_cut hq hw _ (.inl rfl) ?_
      simp only [go_sem]
      have : allEq 12 f g = false := by
        rw [Bool.eq_false_iff]; intro h3; exact e (allEq_iff.1 h3 n hj)
      rw [this]
    · repeat (refine And.intro (by omega) ?_)
      refine EK_again (n + 1) (Weak.slots (by simp [go_sem])) ⟨by omega, fun j hj => ?_⟩ (by omega)
      by_cases e2 : j = n
      · subst e2; exact e
      · exact hn.2 j (by omega)
  · have : n = 12 := by omega
    subst this
    simp only [go_sem, Int.not_lt.2 hc]
    refine ret_cut hq hw _ (.inl rfl) ?_
    simp only [go_sem]
    rw [allEq_iff.2 hn.2]
theorem toCel {H : List Blk} {f g : Nat → Int} : Cal Try.prog 11 [.a (rowL .u16 12 (f) ++ rowL .u16 12 (g))] H fun v H' => v = .a (rowL .u16 12 (f) ++ rowL .u16 12 (g)) ∧ H' = H := by
  refine cal_fn 12 mixed Try.func11 Try.ntmps11 Try.results11 rfl rfl rfl fun hw x hx hq => ?_
  simp only [go_sem, rowL_rep, cel0]
  repeat (refine And.intro (by omega) ?_)
  refine call_ret toFrame (by simp only [go_sem]) ?_
  simp only [go_sem]
  repeat (refine And.intro (by omega) ?_)
  refine call_ret toFrame (by simp only [go_sem]) ?_
  simp only [go_sem]
  repeat (refine And.intro (by omega) ?_)
  refine ret_cut hq hw _ (.inl rfl) ?_
  simp only [go_sem]
end Go.Proofs.Ytlpldbcjnbpgiaa
