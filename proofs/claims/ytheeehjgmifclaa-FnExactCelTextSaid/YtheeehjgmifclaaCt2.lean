/- Contracts of functions of the translated program, by the walk. -/
import Derived.Test.YtheeehjgmifclaaCt1
set_option linter.unusedVariables false
set_option linter.unusedSimpArgs false
set_option maxRecDepth 8000
set_option maxHeartbeats 4000000
namespace Go.Proofs.Ytheeehjgmifclaa
open Go Go.Sx
/-- The byte at a place of a cel's text. -/
def cxB (f g : Nat → Int) (k : Nat) : Int := if k % 13 = 12 then 10 else if dot f (k % 13) (k / 13) = true then 35 else if dot g (k % 13) (k / 13) = true then 111 else 46
def cxL (f g : Nat → Int) (n : Nat) : List Int := (List.range n).map (cxB f g)
theorem cxL_len (f g : Nat → Int) (n : Nat) : (cxL f g n).length = n := by simp [cxL]
theorem cxL_succ (f g : Nat → Int) (n : Nat) : cxL f g (n + 1) = cxL f g n ++ [cxB f g n] := by simp [cxL, List.range_succ]
theorem bs35 : (ByteArray.mk #[35]) = bstr [35] := rfl
theorem bs46 : (ByteArray.mk #[46]) = bstr [46] := rfl
theorem bs111 : (ByteArray.mk #[111]) = bstr [111] := rfl
theorem bs10 : (ByteArray.mk #[10]) = bstr [10] := rfl
theorem bs0 : (ByteArray.mk #[]) = bstr [] := rfl
theorem l05Text {H : List Blk} {i off : Nat} {f g : Nat → Int} {b : Blk} (h : At H i off (rowL .u16 12 (f) ++ rowL .u16 12 (g)) b) (hf : R16 f) (hg : R16 g) : Cal Try.prog 106 [.p i off] H fun u H' => u = .v (.string (bstr (cxL f g 156))) ∧ H' = H := by
  have hgg : At H i (off + 12) (rowL .u16 12 (g)) b := by have := h.right; rwa [rowL_length] at this
  refine cal_fn 36 mixed Try.func106 Try.ntmps106 Try.results106 rfl rfl rfl fun hw cx hx hq => ?_
  repeat (first | (simp only [go_sem, Int.reduceLT, Int.reduceLE, Int.reduceEq, Int.reduceToNat, bs0]) | ((with_reducible refine And.intro ?_ ?_); omega) | ((with_reducible refine And.intro ?_ ?_); first | (with_reducible rfl) | assumption | (simp only [go_sem]; done)))
  refine WK_for (fun y : Nat => ⟨[.p i off, .any, .any, .v (.string (bstr (cxL f g (13 * y)))), .v (.int .i64 y)] ++ junk 32, H⟩) (fun y => y ≤ 12) (fun y => 12 - y) 0 (Weak.slots ?_) (by omega) fun y hy => ?_
  · simp [go_sem, cxL]
  rcases Int.lt_or_le (y : Int) 12 with hc | hc
  · have hyi : ((y : Int) < 12) = True := eq_true hc
    repeat (first | (simp only [go_sem, Int.reduceLT, Int.reduceLE, Int.reduceEq, Int.reduceToNat, hyi]) | ((with_reducible refine And.intro ?_ ?_); omega) | ((with_reducible refine And.intro ?_ ?_); first | (with_reducible rfl) | assumption | (simp only [go_sem]; done)))
    refine WK_for (fun x : Nat => ⟨[.p i off, .any, .any, .v (.string (bstr (cxL f g (13 * y + x)))), .v (.int .i64 y), .v (.int .i64 x)] ++ junk 31, H⟩) (fun x => x ≤ 12) (fun x => 12 - x) 0 (Weak.slots ?_) (by omega) fun x hx2 => ?_
    · simp [go_sem]
    rcases Int.lt_or_le (x : Int) 12 with hc2 | hc2
    · have hxi : ((x : Int) < 12) = True := eq_true hc2
      have hhas := has_dot (f := f) (show x < 12 by omega) (show y < 12 by omega)
      have hhas2 := has_dot (f := g) (show x < 12 by omega) (show y < 12 by omega)
      have hm1 : (13 * y + x) % 13 = x := by omega
      have hm2 : (13 * y + x) / 13 = y := by omega
      cases hdt : dot f x y
      · skip
        cases hdg : dot g x y
        · have hB : cxB f g (13 * y + x) = 46 := by unfold cxB; rw [hm1, hm2, hdt, hdg, if_neg (by omega)]; rfl
          repeat (first | (simp only [go_sem, Int.reduceLT, Int.reduceLE, Int.reduceEq, Int.reduceToNat, h.lt, hyi, hxi, hhas, hhas2, hdt, hdg, bs35, bs46, bs111, bstr_app, bstr_size, cxL_len, List.length_singleton]) | ((with_reducible refine And.intro ?_ ?_); omega) | ((with_reducible refine isSK ?_); first | (refine call_ret (l01Has h.left hf) (by simp only [go_sem, Int.reduceLT, Int.reduceLE, Int.reduceEq, Int.reduceToNat, h.lt, hyi, hxi, hhas, hhas2, hdt, hdg, bs35, bs46, bs111, bstr_app, bstr_size, cxL_len, List.length_singleton]) ?_) | (refine call_ret (l01Has hgg hg) (by simp only [go_sem, Int.reduceLT, Int.reduceLE, Int.reduceEq, Int.reduceToNat, h.lt, hyi, hxi, hhas, hhas2, hdt, hdg, bs35, bs46, bs111, bstr_app, bstr_size, cxL_len, List.length_singleton]) ?_)) | ((with_reducible refine isMC ?_); first | (refine mcall_ret (l01Has h.left hf) (by simp only [go_sem, Int.reduceLT, Int.reduceLE, Int.reduceEq, Int.reduceToNat, h.lt, hyi, hxi, hhas, hhas2, hdt, hdg, bs35, bs46, bs111, bstr_app, bstr_size, cxL_len, List.length_singleton]) (by simp only [go_sem, Int.reduceLT, Int.reduceLE, Int.reduceEq, Int.reduceToNat, h.lt, hyi, hxi, hhas, hhas2, hdt, hdg, bs35, bs46, bs111, bstr_app, bstr_size, cxL_len, List.length_singleton]) ?_) | (refine mcall_ret (l01Has hgg hg) (by simp only [go_sem, Int.reduceLT, Int.reduceLE, Int.reduceEq, Int.reduceToNat, h.lt, hyi, hxi, hhas, hhas2, hdt, hdg, bs35, bs46, bs111, bstr_app, bstr_size, cxL_len, List.length_singleton]) (by simp only [go_sem, Int.reduceLT, Int.reduceLE, Int.reduceEq, Int.reduceToNat, h.lt, hyi, hxi, hhas, hhas2, hdt, hdg, bs35, bs46, bs111, bstr_app, bstr_size, cxL_len, List.length_singleton]) ?_)) | ((with_reducible refine And.intro ?_ ?_); first | (with_reducible rfl) | assumption | (simp only [go_sem]; done)))
          refine EK_again (x + 1) (Weak.slots ?_) (by omega) (by omega)
          rw [show 13 * y + (x + 1) = (13 * y + x) + 1 by omega, cxL_succ f g (13 * y + x), hB]
          simp [go_sem]
        · have hB : cxB f g (13 * y + x) = 111 := by unfold cxB; rw [hm1, hm2, hdt, hdg, if_neg (by omega)]; rfl
          repeat (first | (simp only [go_sem, Int.reduceLT, Int.reduceLE, Int.reduceEq, Int.reduceToNat, h.lt, hyi, hxi, hhas, hhas2, hdt, hdg, bs35, bs46, bs111, bstr_app, bstr_size, cxL_len, List.length_singleton]) | ((with_reducible refine And.intro ?_ ?_); omega) | ((with_reducible refine isSK ?_); first | (refine call_ret (l01Has h.left hf) (by simp only [go_sem, Int.reduceLT, Int.reduceLE, Int.reduceEq, Int.reduceToNat, h.lt, hyi, hxi, hhas, hhas2, hdt, hdg, bs35, bs46, bs111, bstr_app, bstr_size, cxL_len, List.length_singleton]) ?_) | (refine call_ret (l01Has hgg hg) (by simp only [go_sem, Int.reduceLT, Int.reduceLE, Int.reduceEq, Int.reduceToNat, h.lt, hyi, hxi, hhas, hhas2, hdt, hdg, bs35, bs46, bs111, bstr_app, bstr_size, cxL_len, List.length_singleton]) ?_)) | ((with_reducible refine isMC ?_); first | (refine mcall_ret (l01Has h.left hf) (by simp only [go_sem, Int.reduceLT, Int.reduceLE, Int.reduceEq, Int.reduceToNat, h.lt, hyi, hxi, hhas, hhas2, hdt, hdg, bs35, bs46, bs111, bstr_app, bstr_size, cxL_len, List.length_singleton]) (by simp only [go_sem, Int.reduceLT, Int.reduceLE, Int.reduceEq, Int.reduceToNat, h.lt, hyi, hxi, hhas, hhas2, hdt, hdg, bs35, bs46, bs111, bstr_app, bstr_size, cxL_len, List.length_singleton]) ?_) | (refine mcall_ret (l01Has hgg hg) (by simp only [go_sem, Int.reduceLT, Int.reduceLE, Int.reduceEq, Int.reduceToNat, h.lt, hyi, hxi, hhas, hhas2, hdt, hdg, bs35, bs46, bs111, bstr_app, bstr_size, cxL_len, List.length_singleton]) (by simp only [go_sem, Int.reduceLT, Int.reduceLE, Int.reduceEq, Int.reduceToNat, h.lt, hyi, hxi, hhas, hhas2, hdt, hdg, bs35, bs46, bs111, bstr_app, bstr_size, cxL_len, List.length_singleton]) ?_)) | ((with_reducible refine And.intro ?_ ?_); first | (with_reducible rfl) | assumption | (simp only [go_sem]; done)))
          refine EK_again (x + 1) (Weak.slots ?_) (by omega) (by omega)
          rw [show 13 * y + (x + 1) = (13 * y + x) + 1 by omega, cxL_succ f g (13 * y + x), hB]
          simp [go_sem]
      · skip
        cases hdg : dot g x y
        · have hB : cxB f g (13 * y + x) = 35 := by unfold cxB; rw [hm1, hm2, hdt, hdg, if_neg (by omega)]; rfl
          repeat (first | (simp only [go_sem, Int.reduceLT, Int.reduceLE, Int.reduceEq, Int.reduceToNat, h.lt, hyi, hxi, hhas, hhas2, hdt, hdg, bs35, bs46, bs111, bstr_app, bstr_size, cxL_len, List.length_singleton]) | ((with_reducible refine And.intro ?_ ?_); omega) | ((with_reducible refine isSK ?_); first | (refine call_ret (l01Has h.left hf) (by simp only [go_sem, Int.reduceLT, Int.reduceLE, Int.reduceEq, Int.reduceToNat, h.lt, hyi, hxi, hhas, hhas2, hdt, hdg, bs35, bs46, bs111, bstr_app, bstr_size, cxL_len, List.length_singleton]) ?_) | (refine call_ret (l01Has hgg hg) (by simp only [go_sem, Int.reduceLT, Int.reduceLE, Int.reduceEq, Int.reduceToNat, h.lt, hyi, hxi, hhas, hhas2, hdt, hdg, bs35, bs46, bs111, bstr_app, bstr_size, cxL_len, List.length_singleton]) ?_)) | ((with_reducible refine isMC ?_); first | (refine mcall_ret (l01Has h.left hf) (by simp only [go_sem, Int.reduceLT, Int.reduceLE, Int.reduceEq, Int.reduceToNat, h.lt, hyi, hxi, hhas, hhas2, hdt, hdg, bs35, bs46, bs111, bstr_app, bstr_size, cxL_len, List.length_singleton]) (by simp only [go_sem, Int.reduceLT, Int.reduceLE, Int.reduceEq, Int.reduceToNat, h.lt, hyi, hxi, hhas, hhas2, hdt, hdg, bs35, bs46, bs111, bstr_app, bstr_size, cxL_len, List.length_singleton]) ?_) | (refine mcall_ret (l01Has hgg hg) (by simp only [go_sem, Int.reduceLT, Int.reduceLE, Int.reduceEq, Int.reduceToNat, h.lt, hyi, hxi, hhas, hhas2, hdt, hdg, bs35, bs46, bs111, bstr_app, bstr_size, cxL_len, List.length_singleton]) (by simp only [go_sem, Int.reduceLT, Int.reduceLE, Int.reduceEq, Int.reduceToNat, h.lt, hyi, hxi, hhas, hhas2, hdt, hdg, bs35, bs46, bs111, bstr_app, bstr_size, cxL_len, List.length_singleton]) ?_)) | ((with_reducible refine And.intro ?_ ?_); first | (with_reducible rfl) | assumption | (simp only [go_sem]; done)))
          refine EK_again (x + 1) (Weak.slots ?_) (by omega) (by omega)
          rw [show 13 * y + (x + 1) = (13 * y + x) + 1 by omega, cxL_succ f g (13 * y + x), hB]
          simp [go_sem]
        · have hB : cxB f g (13 * y + x) = 35 := by unfold cxB; rw [hm1, hm2, hdt, hdg, if_neg (by omega)]; rfl
          repeat (first | (simp only [go_sem, Int.reduceLT, Int.reduceLE, Int.reduceEq, Int.reduceToNat, h.lt, hyi, hxi, hhas, hhas2, hdt, hdg, bs35, bs46, bs111, bstr_app, bstr_size, cxL_len, List.length_singleton]) | ((with_reducible refine And.intro ?_ ?_); omega) | ((with_reducible refine isSK ?_); first | (refine call_ret (l01Has h.left hf) (by simp only [go_sem, Int.reduceLT, Int.reduceLE, Int.reduceEq, Int.reduceToNat, h.lt, hyi, hxi, hhas, hhas2, hdt, hdg, bs35, bs46, bs111, bstr_app, bstr_size, cxL_len, List.length_singleton]) ?_) | (refine call_ret (l01Has hgg hg) (by simp only [go_sem, Int.reduceLT, Int.reduceLE, Int.reduceEq, Int.reduceToNat, h.lt, hyi, hxi, hhas, hhas2, hdt, hdg, bs35, bs46, bs111, bstr_app, bstr_size, cxL_len, List.length_singleton]) ?_)) | ((with_reducible refine isMC ?_); first | (refine mcall_ret (l01Has h.left hf) (by simp only [go_sem, Int.reduceLT, Int.reduceLE, Int.reduceEq, Int.reduceToNat, h.lt, hyi, hxi, hhas, hhas2, hdt, hdg, bs35, bs46, bs111, bstr_app, bstr_size, cxL_len, List.length_singleton]) (by simp only [go_sem, Int.reduceLT, Int.reduceLE, Int.reduceEq, Int.reduceToNat, h.lt, hyi, hxi, hhas, hhas2, hdt, hdg, bs35, bs46, bs111, bstr_app, bstr_size, cxL_len, List.length_singleton]) ?_) | (refine mcall_ret (l01Has hgg hg) (by simp only [go_sem, Int.reduceLT, Int.reduceLE, Int.reduceEq, Int.reduceToNat, h.lt, hyi, hxi, hhas, hhas2, hdt, hdg, bs35, bs46, bs111, bstr_app, bstr_size, cxL_len, List.length_singleton]) (by simp only [go_sem, Int.reduceLT, Int.reduceLE, Int.reduceEq, Int.reduceToNat, h.lt, hyi, hxi, hhas, hhas2, hdt, hdg, bs35, bs46, bs111, bstr_app, bstr_size, cxL_len, List.length_singleton]) ?_)) | ((with_reducible refine And.intro ?_ ?_); first | (with_reducible rfl) | assumption | (simp only [go_sem]; done)))
          refine EK_again (x + 1) (Weak.slots ?_) (by omega) (by omega)
          rw [show 13 * y + (x + 1) = (13 * y + x) + 1 by omega, cxL_succ f g (13 * y + x), hB]
          simp [go_sem]
    · obtain rfl : x = 12 := by omega
      have hB : cxB f g (13 * y + 12) = 10 := by unfold cxB; rw [if_pos (by omega)]
      have hxi : (((12 : Nat) : Int) < 12) = False := eq_false (by omega)
      repeat (first | (simp only [go_sem, Int.reduceLT, Int.reduceLE, Int.reduceEq, Int.reduceToNat, hxi, bs10, bstr_app, bstr_size, cxL_len, List.length_singleton]) | ((with_reducible refine And.intro ?_ ?_); omega) | ((with_reducible refine And.intro ?_ ?_); first | (with_reducible rfl) | assumption | (simp only [go_sem]; done)))
      refine EK_again (y + 1) (Weak.slots ?_) (by omega) (by omega)
      rw [show 13 * (y + 1) = (13 * y + 12) + 1 by omega, cxL_succ f g (13 * y + 12), hB]
      simp [go_sem]
  · obtain rfl : y = 12 := by omega
    have hyi : (((12 : Nat) : Int) < 12) = False := eq_false (by omega)
    repeat (first | (simp only [go_sem, Int.reduceLT, Int.reduceLE, Int.reduceEq, Int.reduceToNat, hyi]) | ((with_reducible refine And.intro ?_ ?_); omega) | ((with_reducible refine And.intro ?_ ?_); first | (with_reducible rfl) | assumption | (simp only [go_sem]; done)))
    refine ret_same hq _ (.inl rfl) ?_
    simp [go_sem]
end Go.Proofs.Ytheeehjgmifclaa

