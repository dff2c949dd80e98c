/- Contracts of functions of the translated program, by the walk. -/
import Derived.Test.YtjkkallcgplgmaaB1
set_option linter.unusedVariables false
set_option linter.unusedSimpArgs false
set_option maxRecDepth 8000
set_option maxHeartbeats 4000000
namespace Go.Proofs.Ytjkkallcgplgmaa
open Go Go.Sx
/-- slices.IndexFunc. -/
theorem indexFuncR {H : List Blk} {v : V} {l : List (Nat → Int)} {p : (Nat → Int) → Bool} {fn : Nat} {cs : List V} (h : Rd H v (rowL .u16 12) l) (hm : l.length ≤ 9223372036854775806)
    (hp : ∀ j (hj : j < l.length), ∀ L, Cal Try.prog fn (.a ((rowL .u16 12) l[j]) :: cs) (H ++ L) fun v H' => v = .v (.bool (p l[j])) ∧ H' = H ++ L) :
    Cal Try.prog 144 [v, .f fn cs] H fun u H' => u = .v (.int .i64 (idxL p l)) ∧ H' = H := by
  have hL := h.lenV (P := Try.prog) slTy26
  refine cal_fn 17 mixed Try.func144 Try.ntmps144 Try.results144 rfl rfl rfl fun hw cx hx hq => ?_
  simp only [go_sem, hL]
  refine WK_for (fun n : Nat => ⟨[v, .f fn cs, .any, .any, .any, .any, .any, .v (.int .i64 l.length), .v (.int .i64 n)] ++ junk 10, H⟩) (fun n => n ≤ l.length ∧ ∀ j (hj : j < l.length), j < n → p l[j] = false) (fun n => l.length - n) 0 (Weak.slots ?_) ?_ fun n hn => ?_
  · simp [go_sem]
  · simp
  rcases Int.lt_or_le (n : Int) l.length with hc | hc
  · have hj : n < l.length := by omega
    obtain ⟨i, off, c, bl, rfl, hat⟩ := h.row (by omega)
    have hfit := hat.fits (rowL .u16 12) 12 (fun _ => rowL_length ..) hj (by omega)
    have hq' := hp n hj []
    rw [List.append_nil] at hq'
    simp only [go_sem, hc, hat.get, hat.live, hat.elem (rowL .u16 12) 12 (fun _ => rowL_length ..) hj]
    repeat (refine And.intro (by omega) ?_)
    refine call_ret hq' (by simp only [go_sem]) ?_
    simp only [go_sem]
    refine ⟨fun e => ?_, fun e => ?_⟩
    · refine ret_same hq _ (.inl rfl) ?_
      simp only [go_sem]
      rw [idxL_at hj e hn.2]
    · repeat (refine And.intro (by omega) ?_)
      refine EK_again (n + 1) (Weak.slots (by simp [go_sem])) ⟨by omega, fun j hj2 hj3 => ?_⟩ (by omega)
      by_cases e2 : j = n
      · subst e2; exact e
      · exact hn.2 j hj2 (by omega)
  · simp only [go_sem, Int.not_lt.2 hc]
    refine ret_same hq _ (.inl rfl) ?_
    simp only [go_sem]
    rw [idxL_none fun j hj => hn.2 j hj (by omega)]
theorem containsFuncR {H : List Blk} {v : V} {l : List (Nat → Int)} {p : (Nat → Int) → Bool} {fn : Nat} {cs : List V} (h : Rd H v (rowL .u16 12) l) (hm : l.length ≤ 9223372036854775806)
    (hp : ∀ j (hj : j < l.length), ∀ L, Cal Try.prog fn (.a ((rowL .u16 12) l[j]) :: cs) (H ++ L) fun v H' => v = .v (.bool (p l[j])) ∧ H' = H ++ L) :
    Cal Try.prog 129 [v, .f fn cs] H fun u H' => u = .v (.bool (l.any p)) ∧ H' = H := by
  have hsol := h.solid
  refine cal_fn 7 mixed Try.func129 Try.ntmps129 Try.results129 rfl rfl rfl fun hw cx hx hq => ?_
  simp only [go_sem]
  refine call_ret (indexFuncR h hm hp) (by simp only [go_sem, hsol]) ?_
  simp only [go_sem, idxL_nonneg]
  refine ret_same hq _ (.inl rfl) ?_
  simp only [go_sem]


theorem areFramesR {H : List Blk} {v : V} {l : List (Nat → Int)} (h : Rd H v (rowL .u16 12) l) (hm : l.length ≤ 9223372036854775806) :
    Cal Try.prog 111 [v] H fun u H' => u = .v (.bool (l.all okF)) ∧ H' = H := by
  have hsol := h.solid
  refine cal_fn 5 mixed Try.func111 Try.ntmps111 Try.results111 rfl rfl rfl fun hw cx hx hq => ?_
  simp only [go_sem]
  refine call_ret (containsFuncR (p := fun f => !okF f) h hm fun j hj L => areFrames1) (by simp only [go_sem, hsol]) ?_
  simp only [go_sem, not_any_not]
  refine ret_same hq _ (.inl rfl) ?_
  simp only [go_sem]
def okB (l : List (Nat → Int)) : Bool := decide (l.length ≤ 40) && l.all okF
theorem okB_iff {l : List (Nat → Int)} : okB l = true ↔ l.length ≤ 40 ∧ l.all okF = true := by simp [okB]
theorem validBook {H : List Blk} {v : V} {l : List (Nat → Int)} (h : Rd H v (rowL .u16 12) l) (hm : l.length ≤ 9223372036854775806) :
    Cal Try.prog 68 [v] H fun u H' => u = .v (.bool (okB l)) ∧ H' = H := by
  have hsol := h.solid
  have hL := h.lenV (P := Try.prog) slTy27
  refine cal_fn 9 mixed Try.func68 Try.ntmps68 Try.results68 rfl rfl rfl fun hw cx hx hq => ?_
  simp only [go_sem, hL]
  by_cases e : l.length ≤ 40
  · have e' : (l.length : Int) ≤ 40 := by omega
    simp only [go_sem, e']
    refine call_ret (areFramesR h hm) (by simp only [go_sem, hsol]) ?_
    simp only [go_sem]
    refine ret_same hq _ (.inl rfl) ?_
    simp [go_sem, okB, e]
  · have e' : ¬ (l.length : Int) ≤ 40 := by omega
    simp only [go_sem, e']
    refine ret_same hq _ (.inl rfl) ?_
    simp [go_sem, okB, e]
theorem l02Ok {H : List Blk} {v : V} {l : List (Nat → Int)} (h : Rd H v (rowL .u16 12) l) (hm : l.length ≤ 9223372036854775806) :
    Cal Try.prog 56 [v] H fun u H' => u = .v (.bool (okB l)) ∧ H' = H := by
  have hsol := h.solid
  have hL := h.lenV (P := Try.prog) slTy27
  refine cal_fn 17 mixed Try.func56 Try.ntmps56 Try.results56 rfl rfl rfl fun hw cx hx hq => ?_
  simp only [go_sem]
  refine WK_for (fun n : Nat => ⟨[v, .any, .v (.bool false), .v (.int .i64 n)] ++ junk 14, H⟩) (fun n => n ≤ l.length ∧ ∀ j (hj : j < l.length), j < n → okF l[j] = true) (fun n => l.length - n) 0 (Weak.slots ?_) ?_ fun n hn => ?_
  · simp [go_sem]
  · simp
  rcases Int.lt_or_le (n : Int) l.length with hc | hc
  · have hj : n < l.length := by omega
    obtain ⟨i, off, c, bl, rfl, hat⟩ := h.row (by omega)
    have hfit := hat.fits (rowL .u16 12) 12 (fun _ => rowL_length ..) hj (by omega)
    have hatj : At H i (off + n * 12) (rowL .u16 12 l[n]) bl := ⟨hat.get, hat.live, by rw [rowL_length]; exact hat.elem (rowL .u16 12) 12 (fun _ => rowL_length ..) hj⟩
    simp only [go_sem, hc]
    repeat (refine And.intro (by omega) ?_)
    refine call_ret (l01Ok hatj) (by simp only [go_sem]) ?_
    simp only [go_sem]
    refine ⟨fun e => ?_, fun e => ?_⟩
    · refine ret_same hq _ (.inl rfl) ?_
      simp only [go_sem]
      have : okB l = false := by
        rw [Bool.eq_false_iff]; intro h2
        have := List.all_eq_true.1 (okB_iff.1 h2).2 _ (List.getElem_mem hj)
        rw [e] at this; cases this
      rw [this]
    · repeat (refine And.intro (by omega) ?_)
      refine EK_again (n + 1) (Weak.slots (by simp [go_sem])) ⟨by omega, fun j hj2 hj3 => ?_⟩ (by omega)
      by_cases e2 : j = n
      · subst e2; exact e
      · exact hn.2 j hj2 (by omega)
  · simp only [go_sem, hL, Int.not_lt.2 hc]
    refine ret_same hq _ (.inl rfl) ?_
    simp only [go_sem]
    have : l.all okF = true := List.all_eq_true.2 fun x hx => by
      obtain ⟨j, hj, rfl⟩ := List.mem_iff_getElem.1 hx
      exact hn.2 j hj (by omega)
    simp [okB, this]; omega
theorem isPage {H : List Blk} {v : V} {l : List (Nat → Int)} {p : Int} (h : Rd H v (rowL .u16 12) l) (hm : l.length ≤ 9223372036854775806) :
    Cal Try.prog 70 [v, .v (.int .i64 p)] H fun u H' => u = .v (.bool (decide (0 ≤ p) && decide (p ≤ l.length - 1))) ∧ H' = H := by
  have hL := h.lenV (P := Try.prog) slTy27
  refine cal_fn 8 mixed Try.func70 Try.ntmps70 Try.results70 rfl rfl rfl fun hw cx hx hq => ?_
  simp only [go_sem, hL]
  repeat (refine And.intro (by omega) ?_)
  refine call_ret inRange (by simp only [go_sem]) ?_
  simp only [go_sem]
  refine ret_same hq _ (.inl rfl) ?_
  simp only [go_sem]
def pageC (l : List (Nat → Int)) (p : Int) : Int := if okB l = true then (if (decide (0 ≤ p) && decide (p ≤ (l.length : Int) - 1)) = true then 0 else 2) else 1
theorem checkPage {H : List Blk} {v : V} {l : List (Nat → Int)} {p : Int} (h : Rd H v (rowL .u16 12) l) (hm : l.length ≤ 9223372036854775806) :
    Cal Try.prog 87 [v, .v (.int .i64 p)] H fun u H' => u = .v (.int .i64 (pageC l p)) ∧ H' = H := by
  have hsol := h.solid
  refine cal_fn 12 mixed Try.func87 Try.ntmps87 Try.results87 rfl rfl rfl fun hw cx hx hq => ?_
  simp only [go_sem]
  refine call_ret (validBook h hm) (by simp only [go_sem, hsol]) ?_
  cases e1 : okB l
  · simp only [go_sem]
    refine ret_same hq _ (.inl rfl) ?_
    simp [go_sem, pageC, e1]
  simp only [go_sem]
  refine call_ret (isPage h hm) (by simp only [go_sem, hsol]) ?_
  cases e2 : (decide (0 ≤ p) && decide (p ≤ (l.length : Int) - 1))
  · simp only [go_sem]
    refine ret_same hq _ (.inl rfl) ?_
    simp only [go_sem, pageC, e1, e2]
  · simp only [go_sem]
    refine ret_same hq _ (.inl rfl) ?_
    simp only [go_sem, pageC, e1, e2]
theorem l04Page {H : List Blk} {v : V} {l : List (Nat → Int)} {p : Int} (h : Rd H v (rowL .u16 12) l) (hm : l.length ≤ 9223372036854775806) :
    Cal Try.prog 85 [v, .v (.int .i64 p)] H fun u H' => u = .v (.int .i64 (pageC l p)) ∧ H' = H := by
  have hsol := h.solid
  have hL := h.lenV (P := Try.prog) slTy27
  refine cal_fn 12 mixed Try.func85 Try.ntmps85 Try.results85 rfl rfl rfl fun hw cx hx hq => ?_
  simp only [go_sem]
  refine call_ret (l02Ok h hm) (by simp only [go_sem, hsol]) ?_
  cases e1 : okB l
  · simp only [go_sem]
    refine ret_same hq _ (.inl rfl) ?_
    simp [go_sem, pageC, e1]
  simp only [go_sem, hL]
  repeat (refine And.intro (by omega) ?_)
  refine call_ret l00In (by simp only [go_sem]) ?_
  cases e2 : (decide (0 ≤ p) && decide (p ≤ (l.length : Int) - 1))
  · simp only [go_sem]
    refine ret_same hq _ (.inl rfl) ?_
    simp only [go_sem, pageC, e1, e2]
  · simp only [go_sem]
    refine ret_same hq _ (.inl rfl) ?_
    simp only [go_sem, pageC, e1, e2]
end Go.Proofs.Ytjkkallcgplgmaa


