/- Contracts of functions of the translated program, by the walk. -/
import Derived.Test.YtheeehjgmifclaaS1
import Derived.Test.YtheeehjgmifclaaB1
import Derived.Test.YtheeehjgmifclaaLD
set_option linter.unusedVariables false
set_option linter.unusedSimpArgs false
set_option maxRecDepth 8000
set_option maxHeartbeats 4000000
namespace Go.Proofs.Ytheeehjgmifclaa
open Go Go.Sx

/-- Is a layer valid? -/
def okL (a : Nat → Int) : Bool := okC a (fun j => a (12 + j)) && ((decide (-12 ≤ a 24) && decide (a 24 ≤ 12)) && ((decide (-12 ≤ a 25) && decide (a 25 ≤ 12)) && (decide (0 ≤ a 26) && decide (a 26 ≤ 8))))
theorem encL_at {H : List Blk} {i off : Nat} {a : Nat → Int} {b : Blk} (h : At H i off (encL a) b) : At H i off (rowL .u16 12 (a) ++ rowL .u16 12 (fun j => a (12 + j))) b ∧ cel b.cells (off + 24) = .v (.int .i8 (a 24)) ∧ cel b.cells (off + 25) = .v (.int .i8 (a 25)) ∧ cel b.cells (off + 26) = .v (.int .i8 (a 26)) := by
  have hs := h.sg
  rw [encL_len] at hs
  refine ⟨?_, ?_, ?_, ?_⟩
  · unfold encL at h
    rw [← List.append_assoc] at h
    exact h.left
  · have := cel_of_seg (j := 24) hs (by omega)
    rw [this]; rfl
  · have := cel_of_seg (j := 25) hs (by omega)
    rw [this]; rfl
  · have := cel_of_seg (j := 26) hs (by omega)
    rw [this]; rfl
theorem l05Layer {H : List Blk} {i off : Nat} {a : Nat → Int} {b : Blk} (h : At H i off (encL a) b) (hly : LyW a) : Cal Try.prog 69 [.p i off] H fun v H' => v = .v (.bool (okL a)) ∧ H' = H := by
  obtain ⟨h1, h24, h25, h26⟩ := encL_at h
  have hlen := h.len (by rw [encL_len]; omega)
  rw [encL_len] at hlen
  have we := hly.e
  have ws := hly.s
  have wsh := hly.sh
  refine cal_fn 30 mixed Try.func69 Try.ntmps69 Try.results69 rfl rfl rfl fun hw cx hx hq => ?_
  cases e1 : okC a (fun j => a (12 + j))
  · repeat (first | (simp only [go_sem, Int.reduceLT, Int.reduceLE, Int.reduceEq, Int.reduceToNat, e1]) | ((with_reducible refine And.intro ?_ ?_); omega) | ((with_reducible refine isSK ?_); first | (refine call_ret (l05Cel h1) (by simp only [go_sem, Int.reduceLT, Int.reduceLE, Int.reduceEq, Int.reduceToNat, e1]) ?_)) | ((with_reducible refine isMC ?_); first | (refine mcall_ret (l05Cel h1) (by simp only [go_sem, Int.reduceLT, Int.reduceLE, Int.reduceEq, Int.reduceToNat, e1]) (by simp only [go_sem, Int.reduceLT, Int.reduceLE, Int.reduceEq, Int.reduceToNat, e1]) ?_)) | ((with_reducible refine And.intro ?_ ?_); first | (with_reducible rfl) | assumption | (simp only [go_sem]; done)))
    refine ret_same hq _ (.inl rfl) ?_
    simp [go_sem, okL, e1]
  cases e2 : (decide (-12 ≤ a 24) && decide (a 24 ≤ 12))
  · repeat (first | (simp only [go_sem, Int.reduceLT, Int.reduceLE, Int.reduceEq, Int.reduceToNat, e1, e2, h.get, h.live, h24]) | ((with_reducible refine And.intro ?_ ?_); omega) | ((with_reducible refine isSK ?_); first | (refine call_ret (l05Cel h1) (by simp only [go_sem, Int.reduceLT, Int.reduceLE, Int.reduceEq, Int.reduceToNat, e1, e2, h.get, h.live, h24]) ?_) | (refine call_ret (l00In) (by simp only [go_sem, Int.reduceLT, Int.reduceLE, Int.reduceEq, Int.reduceToNat, e1, e2, h.get, h.live, h24]) ?_)) | ((with_reducible refine isMC ?_); first | (refine mcall_ret (l05Cel h1) (by simp only [go_sem, Int.reduceLT, Int.reduceLE, Int.reduceEq, Int.reduceToNat, e1, e2, h.get, h.live, h24]) (by simp only [go_sem, Int.reduceLT, Int.reduceLE, Int.reduceEq, Int.reduceToNat, e1, e2, h.get, h.live, h24]) ?_) | (refine mcall_ret (l00In) (by simp only [go_sem, Int.reduceLT, Int.reduceLE, Int.reduceEq, Int.reduceToNat, e1, e2, h.get, h.live, h24]) (by simp only [go_sem, Int.reduceLT, Int.reduceLE, Int.reduceEq, Int.reduceToNat, e1, e2, h.get, h.live, h24]) ?_)) | ((with_reducible refine And.intro ?_ ?_); first | (with_reducible rfl) | assumption | (simp only [go_sem]; done)))
    refine ret_same hq _ (.inl rfl) ?_
    simp only [go_sem, okL, e1, e2]
  cases e3 : (decide (-12 ≤ a 25) && decide (a 25 ≤ 12))
  · repeat (first | (simp only [go_sem, Int.reduceLT, Int.reduceLE, Int.reduceEq, Int.reduceToNat, e1, e2, e3, h.get, h.live, h24, h25]) | ((with_reducible refine And.intro ?_ ?_); omega) | ((with_reducible refine isSK ?_); first | (refine call_ret (l05Cel h1) (by simp only [go_sem, Int.reduceLT, Int.reduceLE, Int.reduceEq, Int.reduceToNat, e1, e2, e3, h.get, h.live, h24, h25]) ?_) | (refine call_ret (l00In) (by simp only [go_sem, Int.reduceLT, Int.reduceLE, Int.reduceEq, Int.reduceToNat, e1, e2, e3, h.get, h.live, h24, h25]) ?_)) | ((with_reducible refine isMC ?_); first | (refine mcall_ret (l05Cel h1) (by simp only [go_sem, Int.reduceLT, Int.reduceLE, Int.reduceEq, Int.reduceToNat, e1, e2, e3, h.get, h.live, h24, h25]) (by simp only [go_sem, Int.reduceLT, Int.reduceLE, Int.reduceEq, Int.reduceToNat, e1, e2, e3, h.get, h.live, h24, h25]) ?_) | (refine mcall_ret (l00In) (by simp only [go_sem, Int.reduceLT, Int.reduceLE, Int.reduceEq, Int.reduceToNat, e1, e2, e3, h.get, h.live, h24, h25]) (by simp only [go_sem, Int.reduceLT, Int.reduceLE, Int.reduceEq, Int.reduceToNat, e1, e2, e3, h.get, h.live, h24, h25]) ?_)) | ((with_reducible refine And.intro ?_ ?_); first | (with_reducible rfl) | assumption | (simp only [go_sem]; done)))
    refine ret_same hq _ (.inl rfl) ?_
    simp only [go_sem, okL, e1, e2, e3]
  · repeat (first | (simp only [go_sem, Int.reduceLT, Int.reduceLE, Int.reduceEq, Int.reduceToNat, e1, e2, e3, h.get, h.live, h24, h25, h26]) | ((with_reducible refine And.intro ?_ ?_); omega) | ((with_reducible refine isSK ?_); first | (refine call_ret (l05Cel h1) (by simp only [go_sem, Int.reduceLT, Int.reduceLE, Int.reduceEq, Int.reduceToNat, e1, e2, e3, h.get, h.live, h24, h25, h26]) ?_) | (refine call_ret (l00In) (by simp only [go_sem, Int.reduceLT, Int.reduceLE, Int.reduceEq, Int.reduceToNat, e1, e2, e3, h.get, h.live, h24, h25, h26]) ?_)) | ((with_reducible refine isMC ?_); first | (refine mcall_ret (l05Cel h1) (by simp only [go_sem, Int.reduceLT, Int.reduceLE, Int.reduceEq, Int.reduceToNat, e1, e2, e3, h.get, h.live, h24, h25, h26]) (by simp only [go_sem, Int.reduceLT, Int.reduceLE, Int.reduceEq, Int.reduceToNat, e1, e2, e3, h.get, h.live, h24, h25, h26]) ?_) | (refine mcall_ret (l00In) (by simp only [go_sem, Int.reduceLT, Int.reduceLE, Int.reduceEq, Int.reduceToNat, e1, e2, e3, h.get, h.live, h24, h25, h26]) (by simp only [go_sem, Int.reduceLT, Int.reduceLE, Int.reduceEq, Int.reduceToNat, e1, e2, e3, h.get, h.live, h24, h25, h26]) ?_)) | ((with_reducible refine And.intro ?_ ?_); first | (with_reducible rfl) | assumption | (simp only [go_sem]; done)))
    refine ret_same hq _ (.inl rfl) ?_
    simp only [go_sem, okL, e1, e2, e3]
theorem isLayer {H : List Blk} {a : Nat → Int} (hly : LyW a) : Cal Try.prog 70 [.a (encL a)] H fun v H' => v = .v (.bool (okL a)) ∧ H' = H := by
  have we := hly.e
  have ws := hly.s
  have wsh := hly.sh
  unfold encL tailL
  refine cal_fn 23 mixed Try.func70 Try.ntmps70 Try.results70 rfl rfl rfl fun hw cx hx hq => ?_
  cases e1 : okC a (fun j => a (12 + j))
  · repeat (first | (simp only [go_sem, Int.reduceLT, Int.reduceLE, Int.reduceEq, Int.reduceToNat, e1, segL24]) | ((with_reducible refine And.intro ?_ ?_); omega) | ((with_reducible refine isSK ?_); first | (refine call_ret (implValidCel) (by simp only [go_sem, Int.reduceLT, Int.reduceLE, Int.reduceEq, Int.reduceToNat, e1, segL24]) ?_)) | ((with_reducible refine isMC ?_); first | (refine mcall_ret (implValidCel) (by simp only [go_sem, Int.reduceLT, Int.reduceLE, Int.reduceEq, Int.reduceToNat, e1, segL24]) (by simp only [go_sem, Int.reduceLT, Int.reduceLE, Int.reduceEq, Int.reduceToNat, e1, segL24]) ?_)) | ((with_reducible refine And.intro ?_ ?_); first | (with_reducible rfl) | assumption | (simp only [go_sem]; done)))
    refine ret_cut hq hw _ (.inl rfl) ?_
    simp [go_sem, okL, e1]
  cases e2 : (decide (-12 ≤ a 24) && decide (a 24 ≤ 12))
  · repeat (first | (simp only [go_sem, Int.reduceLT, Int.reduceLE, Int.reduceEq, Int.reduceToNat, e1, e2, segL24, celL24]) | ((with_reducible refine And.intro ?_ ?_); omega) | ((with_reducible refine isSK ?_); first | (refine call_ret (implValidCel) (by simp only [go_sem, Int.reduceLT, Int.reduceLE, Int.reduceEq, Int.reduceToNat, e1, e2, segL24, celL24]) ?_) | (refine call_ret (inRange) (by simp only [go_sem, Int.reduceLT, Int.reduceLE, Int.reduceEq, Int.reduceToNat, e1, e2, segL24, celL24]) ?_)) | ((with_reducible refine isMC ?_); first | (refine mcall_ret (implValidCel) (by simp only [go_sem, Int.reduceLT, Int.reduceLE, Int.reduceEq, Int.reduceToNat, e1, e2, segL24, celL24]) (by simp only [go_sem, Int.reduceLT, Int.reduceLE, Int.reduceEq, Int.reduceToNat, e1, e2, segL24, celL24]) ?_) | (refine mcall_ret (inRange) (by simp only [go_sem, Int.reduceLT, Int.reduceLE, Int.reduceEq, Int.reduceToNat, e1, e2, segL24, celL24]) (by simp only [go_sem, Int.reduceLT, Int.reduceLE, Int.reduceEq, Int.reduceToNat, e1, e2, segL24, celL24]) ?_)) | ((with_reducible refine And.intro ?_ ?_); first | (with_reducible rfl) | assumption | (simp only [go_sem]; done)))
    refine ret_cut hq hw _ (.inl rfl) ?_
    simp only [go_sem, okL, e1, e2]
  cases e3 : (decide (-12 ≤ a 25) && decide (a 25 ≤ 12))
  · repeat (first | (simp only [go_sem, Int.reduceLT, Int.reduceLE, Int.reduceEq, Int.reduceToNat, e1, e2, e3, segL24, celL24, celL25]) | ((with_reducible refine And.intro ?_ ?_); omega) | ((with_reducible refine isSK ?_); first | (refine call_ret (implValidCel) (by simp only [go_sem, Int.reduceLT, Int.reduceLE, Int.reduceEq, Int.reduceToNat, e1, e2, e3, segL24, celL24, celL25]) ?_) | (refine call_ret (inRange) (by simp only [go_sem, Int.reduceLT, Int.reduceLE, Int.reduceEq, Int.reduceToNat, e1, e2, e3, segL24, celL24, celL25]) ?_)) | ((with_reducible refine isMC ?_); first | (refine mcall_ret (implValidCel) (by simp only [go_sem, Int.reduceLT, Int.reduceLE, Int.reduceEq, Int.reduceToNat, e1, e2, e3, segL24, celL24, celL25]) (by simp only [go_sem, Int.reduceLT, Int.reduceLE, Int.reduceEq, Int.reduceToNat, e1, e2, e3, segL24, celL24, celL25]) ?_) | (refine mcall_ret (inRange) (by simp only [go_sem, Int.reduceLT, Int.reduceLE, Int.reduceEq, Int.reduceToNat, e1, e2, e3, segL24, celL24, celL25]) (by simp only [go_sem, Int.reduceLT, Int.reduceLE, Int.reduceEq, Int.reduceToNat, e1, e2, e3, segL24, celL24, celL25]) ?_)) | ((with_reducible refine And.intro ?_ ?_); first | (with_reducible rfl) | assumption | (simp only [go_sem]; done)))
    refine ret_cut hq hw _ (.inl rfl) ?_
    simp only [go_sem, okL, e1, e2, e3]
  · repeat (first | (simp only [go_sem, Int.reduceLT, Int.reduceLE, Int.reduceEq, Int.reduceToNat, e1, e2, e3, segL24, celL24, celL25, celL26]) | ((with_reducible refine And.intro ?_ ?_); omega) | ((with_reducible refine isSK ?_); first | (refine call_ret (implValidCel) (by simp only [go_sem, Int.reduceLT, Int.reduceLE, Int.reduceEq, Int.reduceToNat, e1, e2, e3, segL24, celL24, celL25, celL26]) ?_) | (refine call_ret (inRange) (by simp only [go_sem, Int.reduceLT, Int.reduceLE, Int.reduceEq, Int.reduceToNat, e1, e2, e3, segL24, celL24, celL25, celL26]) ?_)) | ((with_reducible refine isMC ?_); first | (refine mcall_ret (implValidCel) (by simp only [go_sem, Int.reduceLT, Int.reduceLE, Int.reduceEq, Int.reduceToNat, e1, e2, e3, segL24, celL24, celL25, celL26]) (by simp only [go_sem, Int.reduceLT, Int.reduceLE, Int.reduceEq, Int.reduceToNat, e1, e2, e3, segL24, celL24, celL25, celL26]) ?_) | (refine mcall_ret (inRange) (by simp only [go_sem, Int.reduceLT, Int.reduceLE, Int.reduceEq, Int.reduceToNat, e1, e2, e3, segL24, celL24, celL25, celL26]) (by simp only [go_sem, Int.reduceLT, Int.reduceLE, Int.reduceEq, Int.reduceToNat, e1, e2, e3, segL24, celL24, celL25, celL26]) ?_)) | ((with_reducible refine And.intro ?_ ?_); first | (with_reducible rfl) | assumption | (simp only [go_sem]; done)))
    refine ret_cut hq hw _ (.inl rfl) ?_
    simp only [go_sem, okL, e1, e2, e3]
theorem validScene1 {H : List Blk} {a : Nat → Int} (hly : LyW a) : Cal Try.prog 112 [.a (encL a)] H fun v H' => v = .v (.bool (!okL a)) ∧ H' = H := by
  have hle := encL_len a
  refine cal_fn 5 mixed Try.func112 Try.ntmps112 Try.results112 rfl rfl rfl fun hw cx hx hq => ?_
  repeat (first | (simp only [go_sem, Int.reduceLT, Int.reduceLE, Int.reduceEq, Int.reduceToNat, hle]) | ((with_reducible refine And.intro ?_ ?_); omega) | ((with_reducible refine isSK ?_); first | (refine call_ret (isLayer hly) (by simp only [go_sem, Int.reduceLT, Int.reduceLE, Int.reduceEq, Int.reduceToNat, hle]) ?_)) | ((with_reducible refine isMC ?_); first | (refine mcall_ret (isLayer hly) (by simp only [go_sem, Int.reduceLT, Int.reduceLE, Int.reduceEq, Int.reduceToNat, hle]) (by simp only [go_sem, Int.reduceLT, Int.reduceLE, Int.reduceEq, Int.reduceToNat, hle]) ?_)) | ((with_reducible refine And.intro ?_ ?_); first | (with_reducible rfl) | assumption | (simp only [go_sem]; done)))
  refine ret_cut hq hw _ (.inl rfl) ?_
  simp [go_sem]

/-- slices.IndexFunc. -/
theorem indexFuncL {H : List Blk} {v : V} {l : List (Nat → Int)} {p : (Nat → Int) → Bool} {fn : Nat} {cs : List V} (h : Rd H v encL l) (hm : l.length ≤ 9223372036854775806)
    (hp : ∀ j (hj : j < l.length), ∀ L, Cal Try.prog fn (.a (encL l[j]) :: cs) (H ++ L) fun v H' => v = .v (.bool (p l[j])) ∧ H' = H ++ L) :
    Cal Try.prog 136 [v, .f fn cs] H fun u H' => u = .v (.int .i64 (idxL p l)) ∧ H' = H := by
  have hL := h.lenV (P := Try.prog) slTy25
  refine cal_fn 17 mixed Try.func136 Try.ntmps136 Try.results136 rfl rfl rfl fun hw cx hx hq => ?_
  simp only [go_sem, hL]
  refine WK_for (fun n : Nat => ⟨[v, .f fn cs, .any, .any, .any, .any, .any, .v (.int .i64 l.length), .v (.int .i64 n)] ++ junk 10, H⟩) (fun n => n ≤ l.length ∧ ∀ j (hj : j < l.length), j < n → p l[j] = false) (fun n => l.length - n) 0 (Weak.slots ?_) ?_ fun n hn => ?_
  · simp [go_sem]
  · simp
  rcases Int.lt_or_le (n : Int) l.length with hc | hc
  · have hj : n < l.length := by omega
    obtain ⟨i, off, c, bl, rfl, hat⟩ := h.row (by omega)
    have hfit := hat.fits encL 27 encL_len hj (by omega)
    have hq' := hp n hj []
    rw [List.append_nil] at hq'
    simp only [go_sem, hc, hat.get, hat.live, hat.elem encL 27 encL_len hj]
    repeat (refine And.intro (by omega) ?_)
    refine call_ret hq' (by simp only [go_sem]) ?_
    simp only [go_sem]
    refine ⟨fun e => ?_, fun e => ?_⟩
    · refine ret_same hq _ (.inl rfl) ?_
      simp only [go_sem]
      rw [idxL_at hj e hn.2]
    · repeat (refine And.intro (by omega) ?_)
      refine EK_again (n + 1) (Weak.slots (by simp [go_sem])) ⟨by omega, fun j hj2 hj3 => ?_⟩ (by omega)
      by_cases e2 : j = n
      · subst e2; exact e
      · exact hn.2 j hj2 (by omega)
  · simp only [go_sem, Int.not_lt.2 hc]
    refine ret_same hq _ (.inl rfl) ?_
    simp only [go_sem]
    rw [idxL_none fun j hj => hn.2 j hj (by omega)]
theorem containsFuncL {H : List Blk} {v : V} {l : List (Nat → Int)} {p : (Nat → Int) → Bool} {fn : Nat} {cs : List V} (h : Rd H v encL l) (hm : l.length ≤ 9223372036854775806)
    (hp : ∀ j (hj : j < l.length), ∀ L, Cal Try.prog fn (.a (encL l[j]) :: cs) (H ++ L) fun v H' => v = .v (.bool (p l[j])) ∧ H' = H ++ L) :
    Cal Try.prog 111 [v, .f fn cs] H fun u H' => u = .v (.bool (l.any p)) ∧ H' = H := by
  have hsol := h.solid
  refine cal_fn 7 mixed Try.func111 Try.ntmps111 Try.results111 rfl rfl rfl fun hw cx hx hq => ?_
  simp only [go_sem]
  refine call_ret (indexFuncL h hm hp) (by simp only [go_sem, hsol]) ?_
  simp only [go_sem, idxL_nonneg]
  refine ret_same hq _ (.inl rfl) ?_
  simp only [go_sem]

def okS (l : List (Nat → Int)) : Bool := decide (l.length ≤ 8) && l.all okL
theorem okS_iff {l : List (Nat → Int)} : okS l = true ↔ l.length ≤ 8 ∧ l.all okL = true := by simp [okS]
theorem validScene {H : List Blk} {v : V} {l : List (Nat → Int)} (h : Rd H v encL l) (hm : l.length ≤ 9223372036854775806) (hly : ∀ a ∈ l, LyW a) :
    Cal Try.prog 64 [v] H fun u H' => u = .v (.bool (okS l)) ∧ H' = H := by
  have hsol := h.solid
  have hL := h.lenV (P := Try.prog) slTy25
  refine cal_fn 10 mixed Try.func64 Try.ntmps64 Try.results64 rfl rfl rfl fun hw cx hx hq => ?_
  by_cases e : l.length ≤ 8
  · have e' : ((l.length : Int) ≤ 8) = True := eq_true (by omega)
    repeat (first | (simp only [go_sem, Int.reduceLT, Int.reduceLE, Int.reduceEq, Int.reduceToNat, hsol, hL, e', not_any_not]) | ((with_reducible refine And.intro ?_ ?_); omega) | ((with_reducible refine isSK ?_); first | (refine call_ret (containsFuncL (p := fun a => !okL a) h hm fun j hj L => validScene1 (hly _ (List.getElem_mem hj))) (by simp only [go_sem, Int.reduceLT, Int.reduceLE, Int.reduceEq, Int.reduceToNat, hsol, hL, e', not_any_not]) ?_)) | ((with_reducible refine isMC ?_); first | (refine mcall_ret (containsFuncL (p := fun a => !okL a) h hm fun j hj L => validScene1 (hly _ (List.getElem_mem hj))) (by simp only [go_sem, Int.reduceLT, Int.reduceLE, Int.reduceEq, Int.reduceToNat, hsol, hL, e', not_any_not]) (by simp only [go_sem, Int.reduceLT, Int.reduceLE, Int.reduceEq, Int.reduceToNat, hsol, hL, e', not_any_not]) ?_)) | ((with_reducible refine And.intro ?_ ?_); first | (with_reducible rfl) | assumption | (simp only [go_sem]; done)))
    refine ret_same hq _ (.inl rfl) ?_
    simp [go_sem, okS, e]
  · have e' : ((l.length : Int) ≤ 8) = False := eq_false (by omega)
    repeat (first | (simp only [go_sem, Int.reduceLT, Int.reduceLE, Int.reduceEq, Int.reduceToNat, hsol, hL, e']) | ((with_reducible refine And.intro ?_ ?_); omega) | ((with_reducible refine And.intro ?_ ?_); first | (with_reducible rfl) | assumption | (simp only [go_sem]; done)))
    refine ret_same hq _ (.inl rfl) ?_
    simp [go_sem, okS, e]
theorem l05Ok {H : List Blk} {v : V} {l : List (Nat → Int)} (h : Rd H v encL l) (hm : l.length ≤ 9223372036854775806) (hly : ∀ a ∈ l, LyW a) :
    Cal Try.prog 60 [v] H fun u H' => u = .v (.bool (okS l)) ∧ H' = H := by
  have hsol := h.solid
  have hL := h.lenV (P := Try.prog) slTy25
  refine cal_fn 17 mixed Try.func60 Try.ntmps60 Try.results60 rfl rfl rfl fun hw cx hx hq => ?_
  simp only [go_sem]
  refine WK_for (fun n : Nat => ⟨[v, .any, .v (.bool false), .v (.int .i64 n)] ++ junk 14, H⟩) (fun n => n ≤ l.length ∧ ∀ j (hj : j < l.length), j < n → okL l[j] = true) (fun n => l.length - n) 0 (Weak.slots ?_) ?_ fun n hn => ?_
  · simp [go_sem]
  · simp
  rcases Int.lt_or_le (n : Int) l.length with hc | hc
  · have hj : n < l.length := by omega
    obtain ⟨i, off, c, bl, rfl, hat⟩ := h.row (by omega)
    have hatj := hat.el encL_len hj
    cases e : okL l[n]
    · repeat (first | (simp only [go_sem, Int.reduceLT, Int.reduceLE, Int.reduceEq, Int.reduceToNat, hc, e]) | ((with_reducible refine And.intro ?_ ?_); omega) | ((with_reducible refine isSK ?_); first | (refine call_ret (l05Layer hatj (hly _ (List.getElem_mem hj))) (by simp only [go_sem, Int.reduceLT, Int.reduceLE, Int.reduceEq, Int.reduceToNat, hc, e]) ?_)) | ((with_reducible refine isMC ?_); first | (refine mcall_ret (l05Layer hatj (hly _ (List.getElem_mem hj))) (by simp only [go_sem, Int.reduceLT, Int.reduceLE, Int.reduceEq, Int.reduceToNat, hc, e]) (by simp only [go_sem, Int.reduceLT, Int.reduceLE, Int.reduceEq, Int.reduceToNat, hc, e]) ?_)) | ((with_reducible refine And.intro ?_ ?_); first | (with_reducible rfl) | assumption | (simp only [go_sem]; done)))
      refine ret_same hq _ (.inl rfl) ?_
      have : okS l = false := by
        rw [Bool.eq_false_iff]; intro h2
        have := List.all_eq_true.1 (okS_iff.1 h2).2 _ (List.getElem_mem hj)
        rw [e] at this; cases this
      simp [go_sem, this]
    · repeat (first | (simp only [go_sem, Int.reduceLT, Int.reduceLE, Int.reduceEq, Int.reduceToNat, hc, e]) | ((with_reducible refine And.intro ?_ ?_); omega) | ((with_reducible refine isSK ?_); first | (refine call_ret (l05Layer hatj (hly _ (List.getElem_mem hj))) (by simp only [go_sem, Int.reduceLT, Int.reduceLE, Int.reduceEq, Int.reduceToNat, hc, e]) ?_)) | ((with_reducible refine isMC ?_); first | (refine mcall_ret (l05Layer hatj (hly _ (List.getElem_mem hj))) (by simp only [go_sem, Int.reduceLT, Int.reduceLE, Int.reduceEq, Int.reduceToNat, hc, e]) (by simp only [go_sem, Int.reduceLT, Int.reduceLE, Int.reduceEq, Int.reduceToNat, hc, e]) ?_)) | ((with_reducible refine And.intro ?_ ?_); first | (with_reducible rfl) | assumption | (simp only [go_sem]; done)))
      refine EK_again (n + 1) (Weak.slots (by simp [go_sem])) ⟨by omega, fun j hj2 hj3 => ?_⟩ (by omega)
      by_cases e2 : j = n
      · subst e2; exact e
      · exact hn.2 j hj2 (by omega)
  · repeat (first | (simp only [go_sem, Int.reduceLT, Int.reduceLE, Int.reduceEq, Int.reduceToNat, hL, Int.not_lt.2 hc]) | ((with_reducible refine And.intro ?_ ?_); omega) | ((with_reducible refine And.intro ?_ ?_); first | (with_reducible rfl) | assumption | (simp only [go_sem]; done)))
    refine ret_same hq _ (.inl rfl) ?_
    have : l.all okL = true := List.all_eq_true.2 fun x hx => by
      obtain ⟨j, hj, rfl⟩ := List.mem_iff_getElem.1 hx
      exact hn.2 j hj (by omega)
    simp [go_sem, okS, this]; omega
end Go.Proofs.Ytheeehjgmifclaa


