/- Contracts of functions of the translated program, by the walk. -/
import Derived.Test.YtjkkallcgplgmaaTb5
import Derived.Test.YtjkkallcgplgmaaLD
set_option linter.unusedVariables false
set_option linter.unusedSimpArgs false
set_option maxRecDepth 8000
set_option maxHeartbeats 4000000
namespace Go.Proofs.Ytjkkallcgplgmaa
open Go Go.Sx
theorem zerosB (n : Nat) : zerosL [V.v (.bool false)] n = rowB n fun _ => false := by
  rw [← rowB_rep]; unfold zerosL; simp
theorem zerosI (n : Nat) : zerosL [V.v (.int .i64 0)] n = rowL .i64 n fun _ => 0 := by
  rw [← rowL_rep]; unfold zerosL; simp
theorem bsS_range {l : List (Nat → Int)} {I : Nat → Bool} {n : Nat} : ∀ c, -1 ≤ (bsS (fun j => mnI l I j n) I c).1 ∧ (bsS (fun j => mnI l I j n) I c).1 < c ∧ -1 ≤ (bsS (fun j => mnI l I j n) I c).2 ∧ (bsS (fun j => mnI l I j n) I c).2 ≤ 144
  | 0 => by simp [bsS]
  | c + 1 => by
    have ih := bsS_range (l := l) (I := I) (n := n) c
    have hm := mnI_range l I c n
    unfold bsS
    split
    · omega
    · split
      · simp only; omega
      · omega
theorem bsS_found {l : List (Nat → Int)} {I : Nat → Bool} {n k : Nat} (h : (outL I n).length = n - k) (hk : k < n) : 0 ≤ (bsS (fun j => mnI l I j n) I n).1 := by
  cases ho : outL I n with
  | nil => rw [ho] at h; simp at h; omega
  | cons a r => rw [(bsS_out _ I n).2 a r ho]; simp only; omega
theorem outL_less {I : Nat → Bool} {n k : Nat} {l : List (Nat → Int)} (h : (outL I n).length = n - k) (hk : k < n) : (outL (addI I (bsS (fun j => mnI l I j n) I n).1.toNat) n).length = n - (k + 1) := by
  cases ho : outL I n with
  | nil => rw [ho] at h; simp at h; omega
  | cons a r =>
    rw [(bsS_out _ I n).2 a r ho]
    simp only [Int.toNat_natCast]
    have hnd := outL_nodup I n
    rw [ho] at hnd h
    have hmem : fmin (fun j => mnI l I j n) a r ∈ a :: r := by
      rcases fmin_mem (fun j => mnI l I j n) r a with e | e
      · rw [e]; exact List.mem_cons_self ..
      · exact List.mem_cons_of_mem _ e
    rw [outL_add, ho, filter_len hmem hnd, h]; omega
theorem updB_add (I : Nat → Bool) (m : Nat) : updB I m true = addI I m := by
  funext i; unfold updB addI
  by_cases e : i = m
  · simp [e]
  · simp [e]
theorem specTreeBound_ok {H : List Blk} {v : V} {l : List (Nat → Int)} (h : Rd H v (rowL .u16 12) l) (hok : okB l = true) (hR : ∀ f ∈ l, R16 f) :
    Cal Try.prog 29 [v] H fun u H' => u = .t [.v (.int .i64 (tbV l)), .v (.int .i64 0)] ∧ H' = H := by
  have hsol := h.solid
  have hL := h.lenV (P := Try.prog) slTy27
  have h12 := okB_12 hok hR
  have h40 := (okB_iff.1 hok).1
  refine cal_fn 76 mixed Try.func29 Try.ntmps29 Try.results29 rfl rfl rfl fun hw cx hx hq => ?_
  repeat (first | (simp only [go_sem, Int.reduceLT, Int.reduceLE, Int.reduceEq, Int.reduceToNat, hsol, hL, hok, zerosB]) | ((with_reducible refine And.intro ?_ ?_); omega) | ((with_reducible refine isSK ?_); first | (refine call_ret (l02Ok h (by omega)) (by simp only [go_sem, Int.reduceLT, Int.reduceLE, Int.reduceEq, Int.reduceToNat, hsol, hL, hok, zerosB]) ?_)) | ((with_reducible refine isMC ?_); first | (refine mcall_ret (l02Ok h (by omega)) (by simp only [go_sem, Int.reduceLT, Int.reduceLE, Int.reduceEq, Int.reduceToNat, hsol, hL, hok, zerosB]) (by simp only [go_sem, Int.reduceLT, Int.reduceLE, Int.reduceEq, Int.reduceToNat, hsol, hL, hok, zerosB]) ?_)) | ((with_reducible refine And.intro ?_ ?_); first | (with_reducible rfl) | assumption | (simp only [go_sem]; done)))
  refine WK_for (fun q : Nat × (Nat → Bool) × Int => ⟨[v, .any, .any, .any, .s H.length 0 l.length (.k l.length), .v (.int .i64 q.2.2), .v (.int .i64 q.1)] ++ junk 70, H ++ [⟨rowB l.length q.2.1, 4, .fix⟩]⟩) (fun q => q.1 ≤ l.length ∧ q.2.2 + refN l l.length (l.length - q.1) q.2.1 = tbV l ∧ (outL q.2.1 l.length).length = l.length - q.1 ∧ 0 ≤ q.2.2 ∧ q.2.2 ≤ 144 * q.1) (fun q => l.length - q.1) (0, (fun _ => false), 0) (Weak.slots ?_) ?_ fun q hq0 => ?_
  · simp [go_sem]
  · refine ⟨by simp, ?_, ?_, by simp, by simp⟩
    · simp only [Nat.sub_zero, refN_all, Int.zero_add]
    · simp only [outL_none, List.length_range, Nat.sub_zero]
  obtain ⟨k, I, s⟩ := q
  obtain ⟨hk, hs, ho, hs0, hs1⟩ := hq0
  simp only at hk hs ho hs0 hs1 ⊢
  have hrl := rowB_length l.length I
  rcases Int.lt_or_le (k : Int) l.length with hc | hc
  · have hck : ((k : Int) < (l.length : Int)) = True := eq_true hc
    repeat (first | (simp only [go_sem, Int.reduceLT, Int.reduceLE, Int.reduceEq, Int.reduceToNat, hL, hck]) | ((with_reducible refine And.intro ?_ ?_); omega) | ((with_reducible refine And.intro ?_ ?_); first | (with_reducible rfl) | assumption | (simp only [go_sem]; done)))
    refine WK_for (fun j : Nat => ⟨[v, .any, .any, .any, .s H.length 0 l.length (.k l.length), .v (.int .i64 s), .v (.int .i64 k), .v (.int .i64 (bsS (fun j => mnI l I j l.length) I j).1), .v (.int .i64 (bsS (fun j => mnI l I j l.length) I j).2), .v (.int .i64 j)] ++ junk 67, H ++ [⟨rowB l.length I, 4, .fix⟩]⟩) (fun j => j ≤ l.length) (fun j => l.length - j) 0 (Weak.slots ?_) ?_ fun j hj => ?_
    · simp [go_sem, bsS]
    · simp
    have hbr := bsS_range (l := l) (I := I) (n := l.length) j
    rcases Int.lt_or_le (j : Int) l.length with hc2 | hc2
    · have hcj : ((j : Int) < (l.length : Int)) = True := eq_true hc2
      have hcel := rowB_cel I (show j < l.length by omega)
      have hsc : bsS (fun j => mnI l I j l.length) I (j + 1) = if I j = true then bsS (fun j => mnI l I j l.length) I j else if (bsS (fun j => mnI l I j l.length) I j).1 < 0 ∨ mnI l I j l.length < (bsS (fun j => mnI l I j l.length) I j).2 then ((j : Int), mnI l I j l.length) else bsS (fun j => mnI l I j l.length) I j := rfl
      generalize hgb : bsS (fun j => mnI l I j l.length) I j = b at hbr hsc ⊢
      cases hI : I j
      · repeat (first | (simp only [go_sem, Int.reduceLT, Int.reduceLE, Int.reduceEq, Int.reduceToNat, hL, hcj, hcel, hrl, hI]) | ((with_reducible refine And.intro ?_ ?_); omega) | ((with_reducible refine And.intro ?_ ?_); first | (with_reducible rfl) | assumption | (simp only [go_sem]; done)))
        refine WK_for (fun i : Nat => ⟨[v, .any, .any, .any, .s H.length 0 l.length (.k l.length), .v (.int .i64 s), .v (.int .i64 k), .v (.int .i64 b.1), .v (.int .i64 b.2), .v (.int .i64 j), .v (.int .i64 (mnI l I j i)), .v (.int .i64 i)] ++ junk 65, H ++ [⟨rowB l.length I, 4, .fix⟩]⟩) (fun i => i ≤ l.length) (fun i => l.length - i) 0 (Weak.slots ?_) ?_ fun i hi => ?_
        · simp [go_sem, mnI]
        · simp
        have hmr := mnI_range l I j i
        rcases Int.lt_or_le (i : Int) l.length with hc3 | hc3
        · have hci : ((i : Int) < (l.length : Int)) = True := eq_true hc3
          have hcel2 := rowB_cel I (show i < l.length by omega)
          have hsi : mnI l I j (i + 1) = if I i = true ∧ (mnI l I j i < 0 ∨ jmp l i j < mnI l I j i) then jmp l i j else mnI l I j i := rfl
          cases hIi : I i
          · rw [hIi] at hsi hcel2
            rw [if_neg (by simp)] at hsi
            repeat (first | (simp only [go_sem, Int.reduceLT, Int.reduceLE, Int.reduceEq, Int.reduceToNat, hL, hci, hcel2, hrl]) | ((with_reducible refine And.intro ?_ ?_); omega) | ((with_reducible refine And.intro ?_ ?_); first | (with_reducible rfl) | assumption | (simp only [go_sem]; done)))
            refine EK_again (i + 1) (Weak.slots ?_) (by omega) (by omega)
            rw [hsi]
            simp [go_sem]
          · rw [hIi] at hsi hcel2
            generalize hgm : mnI l I j i = x at hmr hsi ⊢
            by_cases h1 : x < 0
            · have e1 : (x < 0) = True := eq_true h1
              rw [if_pos ⟨rfl, .inl h1⟩] at hsi
              repeat (first | (simp only [go_sem, Int.reduceLT, Int.reduceLE, Int.reduceEq, Int.reduceToNat, hsol, hL, hci, hcel2, hrl, e1, Int.toNat_natCast]) | ((with_reducible refine And.intro ?_ ?_); omega) | ((with_reducible refine isSK ?_); first | (refine call_ret (l04Jump h.app h12 (by omega) (by omega)) (by simp only [go_sem, Int.reduceLT, Int.reduceLE, Int.reduceEq, Int.reduceToNat, hsol, hL, hci, hcel2, hrl, e1, Int.toNat_natCast]) ?_)) | ((with_reducible refine isMC ?_); first | (refine mcall_ret (l04Jump h.app h12 (by omega) (by omega)) (by simp only [go_sem, Int.reduceLT, Int.reduceLE, Int.reduceEq, Int.reduceToNat, hsol, hL, hci, hcel2, hrl, e1, Int.toNat_natCast]) (by simp only [go_sem, Int.reduceLT, Int.reduceLE, Int.reduceEq, Int.reduceToNat, hsol, hL, hci, hcel2, hrl, e1, Int.toNat_natCast]) ?_)) | ((with_reducible refine And.intro ?_ ?_); first | (with_reducible rfl) | assumption | (simp only [go_sem]; done)))
              refine EK_again (i + 1) (Weak.slots ?_) (by omega) (by omega)
              rw [hsi]
              simp [go_sem]
            · have e1 : (x < 0) = False := eq_false h1
              by_cases h2 : jmp l i j < x
              · have e2 : (jmp l i j < x) = True := eq_true h2
                rw [if_pos ⟨rfl, .inr h2⟩] at hsi
                repeat (first | (simp only [go_sem, Int.reduceLT, Int.reduceLE, Int.reduceEq, Int.reduceToNat, hsol, hL, hci, hcel2, hrl, e1, e2, Int.toNat_natCast]) | ((with_reducible refine And.intro ?_ ?_); omega) | ((with_reducible refine isSK ?_); first | (refine call_ret (l04Jump h.app h12 (by omega) (by omega)) (by simp only [go_sem, Int.reduceLT, Int.reduceLE, Int.reduceEq, Int.reduceToNat, hsol, hL, hci, hcel2, hrl, e1, e2, Int.toNat_natCast]) ?_)) | ((with_reducible refine isMC ?_); first | (refine mcall_ret (l04Jump h.app h12 (by omega) (by omega)) (by simp only [go_sem, Int.reduceLT, Int.reduceLE, Int.reduceEq, Int.reduceToNat, hsol, hL, hci, hcel2, hrl, e1, e2, Int.toNat_natCast]) (by simp only [go_sem, Int.reduceLT, Int.reduceLE, Int.reduceEq, Int.reduceToNat, hsol, hL, hci, hcel2, hrl, e1, e2, Int.toNat_natCast]) ?_)) | ((with_reducible refine And.intro ?_ ?_); first | (with_reducible rfl) | assumption | (simp only [go_sem]; done)))
                refine EK_again (i + 1) (Weak.slots ?_) (by omega) (by omega)
                rw [hsi]
                simp [go_sem]
              · have e2 : (jmp l i j < x) = False := eq_false h2
                rw [if_neg (fun e => e.2.elim h1 h2)] at hsi
                repeat (first | (simp only [go_sem, Int.reduceLT, Int.reduceLE, Int.reduceEq, Int.reduceToNat, hsol, hL, hci, hcel2, hrl, e1, e2, Int.toNat_natCast]) | ((with_reducible refine And.intro ?_ ?_); omega) | ((with_reducible refine isSK ?_); first | (refine call_ret (l04Jump h.app h12 (by omega) (by omega)) (by simp only [go_sem, Int.reduceLT, Int.reduceLE, Int.reduceEq, Int.reduceToNat, hsol, hL, hci, hcel2, hrl, e1, e2, Int.toNat_natCast]) ?_)) | ((with_reducible refine isMC ?_); first | (refine mcall_ret (l04Jump h.app h12 (by omega) (by omega)) (by simp only [go_sem, Int.reduceLT, Int.reduceLE, Int.reduceEq, Int.reduceToNat, hsol, hL, hci, hcel2, hrl, e1, e2, Int.toNat_natCast]) (by simp only [go_sem, Int.reduceLT, Int.reduceLE, Int.reduceEq, Int.reduceToNat, hsol, hL, hci, hcel2, hrl, e1, e2, Int.toNat_natCast]) ?_)) | ((with_reducible refine And.intro ?_ ?_); first | (with_reducible rfl) | assumption | (simp only [go_sem]; done)))
                refine EK_again (i + 1) (Weak.slots ?_) (by omega) (by omega)
                rw [hsi]
                simp [go_sem]
        · have : i = l.length := by omega
          subst this
          have hci : ((l.length : Int) < (l.length : Int)) = False := eq_false (by omega)
          rw [hI] at hsc
          rw [if_neg (by simp)] at hsc
          generalize hgm : mnI l I j l.length = x at hmr hsc ⊢
          by_cases h1 : b.1 < 0
          · have e1 : (b.1 < 0) = True := eq_true h1
            rw [if_pos (.inl h1)] at hsc
            repeat (first | (simp only [go_sem, Int.reduceLT, Int.reduceLE, Int.reduceEq, Int.reduceToNat, hL, hci, e1]) | ((with_reducible refine And.intro ?_ ?_); omega) | ((with_reducible refine And.intro ?_ ?_); first | (with_reducible rfl) | assumption | (simp only [go_sem]; done)))
            refine EK_again (j + 1) (Weak.slots ?_) (by omega) (by omega)
            rw [hsc]
            simp [go_sem]
          · have e1 : (b.1 < 0) = False := eq_false h1
            by_cases h2 : x < b.2
            · have e2 : (x < b.2) = True := eq_true h2
              rw [if_pos (.inr h2)] at hsc
              repeat (first | (simp only [go_sem, Int.reduceLT, Int.reduceLE, Int.reduceEq, Int.reduceToNat, hL, hci, e1, e2]) | ((with_reducible refine And.intro ?_ ?_); omega) | ((with_reducible refine And.intro ?_ ?_); first | (with_reducible rfl) | assumption | (simp only [go_sem]; done)))
              refine EK_again (j + 1) (Weak.slots ?_) (by omega) (by omega)
              rw [hsc]
              simp [go_sem]
            · have e2 : (x < b.2) = False := eq_false h2
              rw [if_neg (fun e => e.elim h1 h2)] at hsc
              repeat (first | (simp only [go_sem, Int.reduceLT, Int.reduceLE, Int.reduceEq, Int.reduceToNat, hL, hci, e1, e2]) | ((with_reducible refine And.intro ?_ ?_); omega) | ((with_reducible refine And.intro ?_ ?_); first | (with_reducible rfl) | assumption | (simp only [go_sem]; done)))
              refine EK_again (j + 1) (Weak.slots ?_) (by omega) (by omega)
              rw [hsc]
              simp [go_sem]
      · rw [hI] at hsc
        rw [if_pos rfl] at hsc
        repeat (first | (simp only [go_sem, Int.reduceLT, Int.reduceLE, Int.reduceEq, Int.reduceToNat, hL, hcj, hcel, hrl, hI]) | ((with_reducible refine And.intro ?_ ?_); omega) | ((with_reducible refine And.intro ?_ ?_); first | (with_reducible rfl) | assumption | (simp only [go_sem]; done)))
        refine EK_again (j + 1) (Weak.slots ?_) (by omega) (by omega)
        rw [hsc]
        simp [go_sem]
    · have : j = l.length := by omega
      subst this
      have hcj : ((l.length : Int) < (l.length : Int)) = False := eq_false (by omega)
      have hfd := bsS_found (l := l) ho (by omega)
      have hol := outL_less (l := l) ho (by omega)
      have hrf : refN l l.length (l.length - k) I = max 0 (bsS (fun j => mnI l I j l.length) I l.length).2 + refN l l.length (l.length - (k + 1)) (addI I (bsS (fun j => mnI l I j l.length) I l.length).1.toNat) := by
        rw [show l.length - k = (l.length - (k + 1)) + 1 by omega]; rfl
      rw [hrf] at hs
      generalize bsS (fun j => mnI l I j l.length) I l.length = b at hbr hfd hol hs ⊢
      have hwr := rowB_wr I (show b.1.toNat < l.length by omega) true
      repeat (first | (simp only [go_sem, Int.reduceLT, Int.reduceLE, Int.reduceEq, Int.reduceToNat, hL, hcj, hrl, hwr, updB_add]) | ((with_reducible refine And.intro ?_ ?_); omega) | ((with_reducible refine isSK ?_); first | (refine call_ret (l00Max) (by simp only [go_sem, Int.reduceLT, Int.reduceLE, Int.reduceEq, Int.reduceToNat, hL, hcj, hrl, hwr, updB_add]) ?_)) | ((with_reducible refine isMC ?_); first | (refine mcall_ret (l00Max) (by simp only [go_sem, Int.reduceLT, Int.reduceLE, Int.reduceEq, Int.reduceToNat, hL, hcj, hrl, hwr, updB_add]) (by simp only [go_sem, Int.reduceLT, Int.reduceLE, Int.reduceEq, Int.reduceToNat, hL, hcj, hrl, hwr, updB_add]) ?_)) | ((with_reducible refine And.intro ?_ ?_); first | (with_reducible rfl) | assumption | (simp only [go_sem]; done)))
      refine EK_again (k + 1, addI I b.1.toNat, s + max 0 b.2) (Weak.slots ?_) ⟨by simp only; omega, by simp only; omega, hol, by simp only; omega, by simp only; omega⟩ (by simp only; omega)
      simp [go_sem]
  · have : k = l.length := by omega
    subst this
    have hck : ((l.length : Int) < (l.length : Int)) = False := eq_false (by omega)
    rw [Nat.sub_self] at hs
    have hse : s = tbV l := by rw [← hs]; simp [refN]
    repeat (first | (simp only [go_sem, Int.reduceLT, Int.reduceLE, Int.reduceEq, Int.reduceToNat, hL, hck]) | ((with_reducible refine And.intro ?_ ?_); omega) | ((with_reducible refine And.intro ?_ ?_); first | (with_reducible rfl) | assumption | (simp only [go_sem]; done)))
    refine ret_cut hq hw _ (.inl rfl) ?_
    simp [go_sem, hse]
end Go.Proofs.Ytjkkallcgplgmaa

