/- Contracts of functions of the translated program, by the walk. -/
import Derived.Test.YtjkkallcgplgmaaNp8
set_option linter.unusedVariables false
set_option linter.unusedSimpArgs false
set_option maxRecDepth 8000
set_option maxHeartbeats 4000000
namespace Go.Proofs.Ytjkkallcgplgmaa
open Go Go.Sx
/-- The best so far. -/
def BstP (k : Int → Int) (el : Int → Prop) (n : Nat) (b : Int) : Prop := (b = -1 ∧ ∀ y : Int, 0 ≤ y → y < n → ¬ el y) ∨ ((0 ≤ b ∧ b < n) ∧ el b ∧ ∀ y : Int, 0 ≤ y → y < n → el y → y ≠ b → Bef k b y)
theorem BstP.skip {k : Int → Int} {el : Int → Prop} {n : Nat} {b : Int} (h : BstP k el n b) (hn : ¬ el n) : BstP k el (n + 1) b := by
  rcases h with ⟨h1, h2⟩ | ⟨h1, h2, h3⟩
  · refine .inl ⟨h1, fun y h0 hy hel => ?_⟩
    by_cases e : y = n
    · subst e; exact hn hel
    · exact h2 y h0 (by omega) hel
  · refine .inr ⟨by omega, h2, fun y h0 hy hel hne => ?_⟩
    by_cases e : y = n
    · subst e; exact absurd hel hn
    · exact h3 y h0 (by omega) hel hne
theorem BstP.take {k : Int → Int} {el : Int → Prop} {n : Nat} {b : Int} (h : BstP k el n b) (hn : el n) (hb : 0 ≤ b → k n < k b) : BstP k el (n + 1) n := by
  refine .inr ⟨by omega, hn, fun y h0 hy hel hne => ?_⟩
  rcases h with ⟨h1, h2⟩ | ⟨h1, h2, h3⟩
  · exact absurd hel (h2 y h0 (by omega))
  · have q := hb h1.1
    by_cases e : y = b
    · subst e; exact .inl q
    · have := h3 y h0 (by omega) hel e
      unfold Bef at *; omega
theorem BstP.keep {k : Int → Int} {el : Int → Prop} {n : Nat} {b : Int} (h : BstP k el n b) (h0 : 0 ≤ b) (hb : ¬ k n < k b) : BstP k el (n + 1) b := by
  rcases h with ⟨h1, h2⟩ | ⟨h1, h2, h3⟩
  · omega
  · refine .inr ⟨by omega, h2, fun y hy0 hy hel hne => ?_⟩
    by_cases e : y = n
    · subst e; unfold Bef; omega
    · exact h3 y hy0 (by omega) hel hne
theorem BstP.done {n p j : Nat} {k : Int → Int} {g : Nat → Int} {b : Int} (hg : EnumP k n p g) (hj : j + 1 < n) (h : BstP k (fun y => y ≠ p ∧ y ∉ nearL g j) n b) : b = g j := by
  have hel : g j ≠ p ∧ g j ∉ nearL g j := ⟨(hg.val j hj).2, fun hm => by
    obtain ⟨x, hx, e⟩ := List.mem_map.1 hm
    have hx := List.mem_range.1 hx
    have := hg.inj (by omega) hj e
    omega⟩
  have hv := (hg.val j hj).1
  rcases h with ⟨_, h2⟩ | ⟨h1, h2, h3⟩
  · exact absurd hel (h2 _ hv.1 hv.2)
  · obtain ⟨x, hx, e⟩ := hg.all b h1.1 h1.2 h2.1
    have hxj : ¬ x < j := fun hlt => h2.2 (List.mem_map.2 ⟨x, List.mem_range.2 hlt, e⟩)
    by_cases e2 : x = j
    · rw [← e, e2]
    · have b1 := hg.srt j x (by omega) (by omega) (by omega)
      have b2 := h3 (g j) hv.1 hv.2 hel (by rw [← e]; intro e3; exact e2 (hg.inj hx hj e3.symm))
      rw [e] at b1
      exact (b1.irr b2).elim
theorem specNear_err {H : List Blk} {v : V} {l : List (Nat → Int)} {p c : Int} (h : Rd H v (rowL .u16 12) l) (hl : l.length ≤ 1000000) (hc : nrC l p c ≠ 0) :
    Cal Try.prog 44 [v, .v (.int .i64 p), .v (.int .i64 c)] H fun u H' => u = .t [.s H.length 0 0 (.u 0), .v (.int .i64 (nrC l p c))] ∧ H' = H ++ [⟨[], 2, .own 1⟩] := by
  have hsol := h.solid
  have hL := h.lenV (P := Try.prog) slTy27
  unfold nrC at hc ⊢
  by_cases h0 : pageC l p = 0
  · rw [if_pos h0] at hc ⊢
    have hr : ¬ (0 ≤ c ∧ c ≤ (l.length : Int) - 1) := fun h => hc (if_pos h)
    rw [if_neg hr]
    have hr2 : (decide (0 ≤ c) && decide (c ≤ (l.length : Int) - 1)) = false := by rw [Bool.and_eq_false_iff, decide_eq_false_iff_not, decide_eq_false_iff_not]; omega
    refine cal_fn 67 mixed Try.func44 Try.ntmps44 Try.results44 rfl rfl rfl fun hw cx hx hq => ?_
    repeat (first | (simp only [go_sem, Int.reduceLT, Int.reduceLE, Int.reduceEq, Int.reduceToNat, hsol, h0, hL, hr2]) | ((with_reducible refine And.intro ?_ ?_); omega) | ((with_reducible refine isSK ?_); first | (refine call_ret (l04Page h (by omega)) (by simp only [go_sem, Int.reduceLT, Int.reduceLE, Int.reduceEq, Int.reduceToNat, hsol, h0, hL, hr2]) ?_) | (refine call_ret (l00In) (by simp only [go_sem, Int.reduceLT, Int.reduceLE, Int.reduceEq, Int.reduceToNat, hsol, h0, hL, hr2]) ?_)) | ((with_reducible refine isMC ?_); first | (refine mcall_ret (l04Page h (by omega)) (by simp only [go_sem, Int.reduceLT, Int.reduceLE, Int.reduceEq, Int.reduceToNat, hsol, h0, hL, hr2]) (by simp only [go_sem, Int.reduceLT, Int.reduceLE, Int.reduceEq, Int.reduceToNat, hsol, h0, hL, hr2]) ?_) | (refine mcall_ret (l00In) (by simp only [go_sem, Int.reduceLT, Int.reduceLE, Int.reduceEq, Int.reduceToNat, hsol, h0, hL, hr2]) (by simp only [go_sem, Int.reduceLT, Int.reduceLE, Int.reduceEq, Int.reduceToNat, hsol, h0, hL, hr2]) ?_)) | ((with_reducible refine And.intro ?_ ?_); first | (with_reducible rfl) | assumption | (simp only [go_sem]; done)))
    refine ret_at hq _ (.inl rfl) (by simp) ?_
    simp [go_sem]
  · rw [if_neg h0]
    refine cal_fn 67 mixed Try.func44 Try.ntmps44 Try.results44 rfl rfl rfl fun hw cx hx hq => ?_
    repeat (first | (simp only [go_sem, Int.reduceLT, Int.reduceLE, Int.reduceEq, Int.reduceToNat, hsol, h0]) | ((with_reducible refine And.intro ?_ ?_); omega) | ((with_reducible refine isSK ?_); first | (refine call_ret (l04Page h (by omega)) (by simp only [go_sem, Int.reduceLT, Int.reduceLE, Int.reduceEq, Int.reduceToNat, hsol, h0]) ?_)) | ((with_reducible refine isMC ?_); first | (refine mcall_ret (l04Page h (by omega)) (by simp only [go_sem, Int.reduceLT, Int.reduceLE, Int.reduceEq, Int.reduceToNat, hsol, h0]) (by simp only [go_sem, Int.reduceLT, Int.reduceLE, Int.reduceEq, Int.reduceToNat, hsol, h0]) ?_)) | ((with_reducible refine And.intro ?_ ?_); first | (with_reducible rfl) | assumption | (simp only [go_sem]; done)))
    refine ret_at hq _ (.inl rfl) (by simp) ?_
    simp [go_sem]
theorem specNear_ok {H : List Blk} {v : V} {l : List (Nat → Int)} {p c : Nat} {g : Nat → Int} (h : Rd H v (rowL .u16 12) l) (hR : ∀ f ∈ l, R16 f) (hc0 : nrC l p c = 0) (hg : EnumP (fun x => jmp l p x.toNat) l.length p g) :
    Cal Try.prog 44 [v, .v (.int .i64 p), .v (.int .i64 c)] H fun u H' => u = .t [.s H.length 0 (nearL g c).length (.u 0), .v (.int .i64 0)] ∧ H' = H ++ [⟨(nearL g c).flatMap i64C, 2, .own 1⟩] := by
  have hsol := h.solid
  have hL := h.lenV (P := Try.prog) slTy27
  obtain ⟨hp0, hcr⟩ := nrC_ok hc0
  obtain ⟨hB, hp⟩ := pageC_ok hp0
  have h12 := okB_12 hB hR
  have h40 := (okB_iff.1 hB).1
  have hr2 : (decide (0 ≤ (c : Int)) && decide ((c : Int) ≤ (l.length : Int) - 1)) = true := by rw [decide_eq_true hcr.1, decide_eq_true hcr.2]; rfl
  refine cal_fn 67 mixed Try.func44 Try.ntmps44 Try.results44 rfl rfl rfl fun hw cx hx hq => ?_
  have hn1 : norefH H.length H := norefH_wf hw (Nat.le_refl _)
  have hv1 : v.noref H.length = true := h.noref (by omega)
  have hf1 : forget H.length v = v := h.forget (by omega)
  have hvl : ∀ n, H.length ≤ n → V.lt n v = True := fun n hn => h.vlt hn
  repeat (first | (simp only [go_sem, Int.reduceLT, Int.reduceLE, Int.reduceEq, Int.reduceToNat, hsol, hp0, hL, hr2]) | ((with_reducible refine And.intro ?_ ?_); omega) | ((with_reducible refine isSK ?_); first | (refine call_ret (l04Page h (by omega)) (by simp only [go_sem, Int.reduceLT, Int.reduceLE, Int.reduceEq, Int.reduceToNat, hsol, hp0, hL, hr2]) ?_) | (refine call_ret (l00In) (by simp only [go_sem, Int.reduceLT, Int.reduceLE, Int.reduceEq, Int.reduceToNat, hsol, hp0, hL, hr2]) ?_)) | ((with_reducible refine isMC ?_); first | (refine mcall_ret (l04Page h (by omega)) (by simp only [go_sem, Int.reduceLT, Int.reduceLE, Int.reduceEq, Int.reduceToNat, hsol, hp0, hL, hr2]) (by simp only [go_sem, Int.reduceLT, Int.reduceLE, Int.reduceEq, Int.reduceToNat, hsol, hp0, hL, hr2]) ?_) | (refine mcall_ret (l00In) (by simp only [go_sem, Int.reduceLT, Int.reduceLE, Int.reduceEq, Int.reduceToNat, hsol, hp0, hL, hr2]) (by simp only [go_sem, Int.reduceLT, Int.reduceLE, Int.reduceEq, Int.reduceToNat, hsol, hp0, hL, hr2]) ?_)) | ((with_reducible refine And.intro ?_ ?_); first | (with_reducible rfl) | assumption | (simp only [go_sem]; done)))
  refine WK_for (fun j : Nat => ⟨[v, .v (.int .i64 p), .v (.int .i64 c), .any, .any, .any, .any, .any, .any, .s H.length 0 (nearL g j).length (.u 0)] ++ junk 60, H ++ [⟨(nearL g j).flatMap i64C, 2, .own 1⟩]⟩) (fun j => j ≤ c) (fun j => c - j) 0 (Weak.slots ?_) (Nat.zero_le _) fun j hj => ?_
  · simp [go_sem, nearL]
  have hlen := nearL_len g j
  have hl2 : ((nearL g j).flatMap i64C).length = (nearL g j).length := by rw [flat_i64.flen, Nat.mul_one]
  have hn2 : norefs H.length ((nearL g j).flatMap i64C) = true := flat_i64.norefs _ _
  rcases Int.lt_or_le (j : Int) c with hc | hc
  · have e0 : (((nearL g j).length : Int) < (c : Int)) = True := eq_true (by omega)
    repeat (first | (simp only [go_sem, Int.reduceLT, Int.reduceLE, Int.reduceEq, Int.reduceToNat, hsol, e0]) | ((with_reducible refine And.intro ?_ ?_); omega) | ((with_reducible refine And.intro ?_ ?_); first | (with_reducible rfl) | assumption | (simp only [go_sem]; done)))
    refine WK_for (fun s : Nat × Int => ⟨[v, .v (.int .i64 p), .v (.int .i64 c), .any, .any, .any, .any, .any, .any, .s H.length 0 (nearL g j).length (.u 0), .v (.int .i64 s.2), .v (.int .i64 s.1)] ++ junk 58, H ++ [⟨(nearL g j).flatMap i64C, 2, .own 1⟩]⟩) (fun s => s.1 ≤ l.length ∧ BstP (fun x => jmp l p x.toNat) (fun y => y ≠ p ∧ y ∉ nearL g j) s.1 s.2) (fun s => l.length - s.1) (0, -1) (Weak.slots ?_) ⟨Nat.zero_le _, .inl ⟨rfl, fun y h1 h2 => by dsimp only at h2; omega⟩⟩ fun s hs => ?_
    · simp [go_sem]
    obtain ⟨k, bst⟩ := s
    obtain ⟨hk, hbst⟩ := hs
    simp only at hk hbst ⊢
    have hrg : -1 ≤ bst ∧ bst < l.length := by rcases hbst with ⟨h1, _⟩ | ⟨h1, _⟩ <;> omega
    rcases Int.lt_or_le (k : Int) l.length with hc2 | hc2
    · have hk2 : k < l.length := by omega
      by_cases e : k = p
      · have e1 : ((k : Int) = (p : Int)) = True := eq_true (by omega)
        repeat (first | (simp only [go_sem, Int.reduceLT, Int.reduceLE, Int.reduceEq, Int.reduceToNat, hsol, hL, hc2, e1]) | ((with_reducible refine And.intro ?_ ?_); omega) | ((with_reducible refine And.intro ?_ ?_); first | (with_reducible rfl) | assumption | (simp only [go_sem]; done)))
        refine EK_again (k + 1, bst) (Weak.slots ?_) ⟨by dsimp only; omega, hbst.skip fun h => h.1 (by omega)⟩ (by dsimp only; omega)
        simp [go_sem]
      have e1 : ((k : Int) = (p : Int)) = False := eq_false (by omega)
      cases e6 : hasI (nearL g j) k
      · have hel : (k : Int) ≠ p ∧ (k : Int) ∉ nearL g j := ⟨by omega, fun hm => by rw [hasI_iff.2 hm] at e6; cases e6⟩
        by_cases e7 : bst < 0
        · repeat (first | (simp only [go_sem, Int.reduceLT, Int.reduceLE, Int.reduceEq, Int.reduceToNat, hsol, hL, hc2, e1, e6, e7]) | ((with_reducible refine And.intro ?_ ?_); omega) | ((with_reducible refine isSK ?_); first | (refine call_ret (l00Has (l := nearL g j) (Rd.own0 rfl rfl rfl) (by omega)) (by simp only [go_sem, Int.reduceLT, Int.reduceLE, Int.reduceEq, Int.reduceToNat, hsol, hL, hc2, e1, e6, e7]) ?_)) | ((with_reducible refine isMC ?_); first | (refine mcall_ret (l00Has (l := nearL g j) (Rd.own0 rfl rfl rfl) (by omega)) (by simp only [go_sem, Int.reduceLT, Int.reduceLE, Int.reduceEq, Int.reduceToNat, hsol, hL, hc2, e1, e6, e7]) (by simp only [go_sem, Int.reduceLT, Int.reduceLE, Int.reduceEq, Int.reduceToNat, hsol, hL, hc2, e1, e6, e7]) ?_)) | ((with_reducible refine And.intro ?_ ?_); first | (with_reducible rfl) | assumption | (simp only [go_sem]; done)))
          refine EK_again (k + 1, (k : Int)) (Weak.slots ?_) ⟨by dsimp only; omega, hbst.take hel fun h => absurd e7 (by omega)⟩ (by dsimp only; omega)
          simp [go_sem]
        · by_cases e8 : jmp l p k < jmp l p bst.toNat
          · repeat (first | (simp only [go_sem, Int.reduceLT, Int.reduceLE, Int.reduceEq, Int.reduceToNat, hsol, hL, hc2, e1, e6, e7, e8, Int.toNat_natCast]) | ((with_reducible refine And.intro ?_ ?_); omega) | ((with_reducible refine isSK ?_); first | (refine call_ret (l00Has (l := nearL g j) (Rd.own0 rfl rfl rfl) (by omega)) (by simp only [go_sem, Int.reduceLT, Int.reduceLE, Int.reduceEq, Int.reduceToNat, hsol, hL, hc2, e1, e6, e7, e8, Int.toNat_natCast]) ?_) | (refine call_ret (l04Jump h.app h12 (by omega) (by omega)) (by simp only [go_sem, Int.reduceLT, Int.reduceLE, Int.reduceEq, Int.reduceToNat, hsol, hL, hc2, e1, e6, e7, e8, Int.toNat_natCast]) ?_)) | ((with_reducible refine isMC ?_); first | (refine mcall_ret (l00Has (l := nearL g j) (Rd.own0 rfl rfl rfl) (by omega)) (by simp only [go_sem, Int.reduceLT, Int.reduceLE, Int.reduceEq, Int.reduceToNat, hsol, hL, hc2, e1, e6, e7, e8, Int.toNat_natCast]) (by simp only [go_sem, Int.reduceLT, Int.reduceLE, Int.reduceEq, Int.reduceToNat, hsol, hL, hc2, e1, e6, e7, e8, Int.toNat_natCast]) ?_) | (refine mcall_ret (l04Jump h.app h12 (by omega) (by omega)) (by simp only [go_sem, Int.reduceLT, Int.reduceLE, Int.reduceEq, Int.reduceToNat, hsol, hL, hc2, e1, e6, e7, e8, Int.toNat_natCast]) (by simp only [go_sem, Int.reduceLT, Int.reduceLE, Int.reduceEq, Int.reduceToNat, hsol, hL, hc2, e1, e6, e7, e8, Int.toNat_natCast]) ?_)) | ((with_reducible refine And.intro ?_ ?_); first | (with_reducible rfl) | assumption | (simp only [go_sem]; done)))
            refine EK_again (k + 1, (k : Int)) (Weak.slots ?_) ⟨by dsimp only; omega, hbst.take hel fun h => by simpa using e8⟩ (by dsimp only; omega)
            simp [go_sem]
          · repeat (first | (simp only [go_sem, Int.reduceLT, Int.reduceLE, Int.reduceEq, Int.reduceToNat, hsol, hL, hc2, e1, e6, e7, e8, Int.toNat_natCast]) | ((with_reducible refine And.intro ?_ ?_); omega) | ((with_reducible refine isSK ?_); first | (refine call_ret (l00Has (l := nearL g j) (Rd.own0 rfl rfl rfl) (by omega)) (by simp only [go_sem, Int.reduceLT, Int.reduceLE, Int.reduceEq, Int.reduceToNat, hsol, hL, hc2, e1, e6, e7, e8, Int.toNat_natCast]) ?_) | (refine call_ret (l04Jump h.app h12 (by omega) (by omega)) (by simp only [go_sem, Int.reduceLT, Int.reduceLE, Int.reduceEq, Int.reduceToNat, hsol, hL, hc2, e1, e6, e7, e8, Int.toNat_natCast]) ?_)) | ((with_reducible refine isMC ?_); first | (refine mcall_ret (l00Has (l := nearL g j) (Rd.own0 rfl rfl rfl) (by omega)) (by simp only [go_sem, Int.reduceLT, Int.reduceLE, Int.reduceEq, Int.reduceToNat, hsol, hL, hc2, e1, e6, e7, e8, Int.toNat_natCast]) (by simp only [go_sem, Int.reduceLT, Int.reduceLE, Int.reduceEq, Int.reduceToNat, hsol, hL, hc2, e1, e6, e7, e8, Int.toNat_natCast]) ?_) | (refine mcall_ret (l04Jump h.app h12 (by omega) (by omega)) (by simp only [go_sem, Int.reduceLT, Int.reduceLE, Int.reduceEq, Int.reduceToNat, hsol, hL, hc2, e1, e6, e7, e8, Int.toNat_natCast]) (by simp only [go_sem, Int.reduceLT, Int.reduceLE, Int.reduceEq, Int.reduceToNat, hsol, hL, hc2, e1, e6, e7, e8, Int.toNat_natCast]) ?_)) | ((with_reducible refine And.intro ?_ ?_); first | (with_reducible rfl) | assumption | (simp only [go_sem]; done)))
            refine EK_again (k + 1, bst) (Weak.slots ?_) ⟨by dsimp only; omega, hbst.keep (by omega) (by simpa using e8)⟩ (by dsimp only; omega)
            simp [go_sem]
      · repeat (first | (simp only [go_sem, Int.reduceLT, Int.reduceLE, Int.reduceEq, Int.reduceToNat, hsol, hL, hc2, e1, e6]) | ((with_reducible refine And.intro ?_ ?_); omega) | ((with_reducible refine isSK ?_); first | (refine call_ret (l00Has (l := nearL g j) (Rd.own0 rfl rfl rfl) (by omega)) (by simp only [go_sem, Int.reduceLT, Int.reduceLE, Int.reduceEq, Int.reduceToNat, hsol, hL, hc2, e1, e6]) ?_)) | ((with_reducible refine isMC ?_); first | (refine mcall_ret (l00Has (l := nearL g j) (Rd.own0 rfl rfl rfl) (by omega)) (by simp only [go_sem, Int.reduceLT, Int.reduceLE, Int.reduceEq, Int.reduceToNat, hsol, hL, hc2, e1, e6]) (by simp only [go_sem, Int.reduceLT, Int.reduceLE, Int.reduceEq, Int.reduceToNat, hsol, hL, hc2, e1, e6]) ?_)) | ((with_reducible refine And.intro ?_ ?_); first | (with_reducible rfl) | assumption | (simp only [go_sem]; done)))
        refine EK_again (k + 1, bst) (Weak.slots ?_) ⟨by dsimp only; omega, hbst.skip fun h => h.2 (hasI_iff.1 e6)⟩ (by dsimp only; omega)
        simp [go_sem]
    · obtain rfl : k = l.length := by omega
      obtain rfl := BstP.done hg (by omega) hbst
      have hd1 : (H.length + 1 = H.length) = False := eq_false (by omega)
      repeat (first | (simp only [go_sem, Int.reduceLT, Int.reduceLE, Int.reduceEq, Int.reduceToNat, hsol, hL, Int.not_lt.2 hc2, hl2, hn1, hn2, hv1, hf1, hd1, hx]) | ((with_reducible refine And.intro ?_ ?_); omega) | ((with_reducible refine And.intro ?_ ?_); first | (with_reducible rfl) | assumption | (simp only [go_sem]; done)))
      refine EK_again (j + 1) ?_ (by omega) (by omega)
      rw [nearL_succ]
      simp only [List.flatMap_append, List.flatMap_singleton, List.length_append, List.length_singleton]
      exact Weak.keepN rfl (by simp [go_sem] <;> omega) (by simp [hx]) (by simp [go_sem, flat_i64.lts, i64C, hvl] <;> omega) (hw.app (by simp [go_sem, flat_i64.lts, i64C, hvl] <;> omega))
  · obtain rfl : j = c := by omega
    have e0 : (((nearL g j).length : Int) < (j : Int)) = False := eq_false (by omega)
    repeat (first | (simp only [go_sem, Int.reduceLT, Int.reduceLE, Int.reduceEq, Int.reduceToNat, hsol, e0]) | ((with_reducible refine And.intro ?_ ?_); omega) | ((with_reducible refine And.intro ?_ ?_); first | (with_reducible rfl) | assumption | (simp only [go_sem]; done)))
    refine ret_at hq _ (.inl rfl) (by simp) ?_
    simp [go_sem]
end Go.Proofs.Ytjkkallcgplgmaa

