/- Contracts of functions of the translated program, by the walk. -/
import Derived.Test.YtjkkallcgplgmaaD4
import Derived.Test.YtjkkallcgplgmaaPl0
import Derived.Test.YtjkkallcgplgmaaB5
import Derived.Test.YtjkkallcgplgmaaB3
import Derived.Test.YtjkkallcgplgmaaLD
set_option linter.unusedVariables false
set_option linter.unusedSimpArgs false
set_option maxRecDepth 8000
set_option maxHeartbeats 4000000
namespace Go.Proofs.Ytjkkallcgplgmaa
open Go Go.Sx
/-- What stands there when m things are turned. -/
def turnP (l : List Int) (i k m : Nat) : List Int := l.take i ++ ((l.drop (k + 1 - m)).take m).reverse
theorem turnP_len {l : List Int} {i k m : Nat} (hi : i ≤ k) (hk : k < l.length) (hm : m ≤ k + 1 - i) : (turnP l i k m).length = i + m := by
  unfold turnP; simp; omega
theorem turnP_succ {l : List Int} {i k m : Nat} (hi : i ≤ k) (hk : k < l.length) (hm : m < k + 1 - i) : turnP l i k (m + 1) = turnP l i k m ++ [l[k - m]] := by
  unfold turnP
  have e : k + 1 - (m + 1) = k - m := by omega
  have e2 : k + 1 - m = k - m + 1 := by omega
  rw [e, e2, List.drop_eq_getElem_cons (show k - m < l.length by omega), List.take_succ_cons, List.reverse_cons, List.append_assoc]
theorem turnP_all {l : List Int} {i k : Nat} (hi : i ≤ k) (hk : k < l.length) : turnP l i k (k + 1 - i) ++ l.drop (k + 1) = turnL l i k := by
  unfold turnP turnL
  rw [show k + 1 - (k + 1 - i) = i by omega, List.append_assoc]
theorem l04Turned {H : List Blk} {bi : Nat} {l : List Int} {i k : Nat} {ty : TypeId} (hb : H[bi]? = some ⟨l.flatMap i64C, ty, .own 1⟩) (hik : i ≤ k) (hk : k < l.length) (hl : l.length ≤ 1000000) :
    Cal Try.prog 65 [.s bi 0 l.length (.u 0), .v (.int .i64 i), .v (.int .i64 k)] H fun u H' => u = .s H.length 0 l.length (.u 0) ∧ H' = H ++ [⟨(turnL l i k).flatMap i64C, 2, .own 1⟩] := by
  have hbl : bi < H.length := (List.getElem?_eq_some_iff.1 hb).1
  have hfl : (l.flatMap i64C).length = l.length := by rw [flat_i64.flen, Nat.mul_one]
  refine cal_fn 30 mixed Try.func65 Try.ntmps65 Try.results65 rfl rfl rfl fun hw cx hx hq => ?_
  have hn1 : norefH H.length H := norefH_wf hw (Nat.le_refl _)
  have hd1 : (H.length + 1 = H.length) = False := eq_false (by omega)
  have hd2 : (bi = H.length) = False := eq_false (by omega)
  repeat (first | (simp only [go_sem, Int.reduceLT, Int.reduceLE, Int.reduceEq, Int.reduceToNat, (get_app hb), hfl, hn1, hd1, hd2, hx, segI, List.drop_zero]) | ((with_reducible refine And.intro ?_ ?_); omega) | ((with_reducible refine And.intro ?_ ?_); first | (with_reducible rfl) | assumption | (simp only [go_sem]; done)))
  refine WK_for (fun m : Nat => ⟨[.s bi 0 l.length (.u 0), .v (.int .i64 i), .v (.int .i64 k), .any, .any, .any, .any, .s H.length 0 (i + m) (.u 0), .v (.int .i64 ((k : Int) - m))] ++ junk 24, H ++ [⟨(turnP l i k m).flatMap i64C, 2, .own 1⟩]⟩) (fun m => m ≤ k + 1 - i) (fun m => k + 1 - i - m) 0 ?_ ?_ fun m hm => ?_
  · rw [show turnP l i k 0 = l.take i by simp [turnP]]; exact Weak.slots (by simp [go_sem])
  · simp
  have hpl := turnP_len (l := l) hik hk hm
  have hl2 : ((turnP l i k m).flatMap i64C).length = i + m := by rw [flat_i64.flen, Nat.mul_one, hpl]
  have hn2 : norefs H.length ((turnP l i k m).flatMap i64C) = true := flat_i64.norefs _ _
  rcases Int.lt_or_le ((k : Int) - m) i with hc | hc
  · have : m = k + 1 - i := by omega
    subst this
    by_cases he : k + 1 = l.length
    · have e1 : ((k : Int) + 1 = (l.length : Int)) = True := eq_true (by omega)
      have e0 : (0 < (k : Int) + 1) = True := eq_true (by omega)
      repeat (first | (simp only [go_sem, Int.reduceLT, Int.reduceLE, Int.reduceEq, Int.reduceToNat, Int.not_le.2 hc, (get_app hb), hfl, hn1, hd1, hd2, hx, e0, e1, hl2, hn2]) | ((with_reducible refine And.intro ?_ ?_); omega) | ((with_reducible refine And.intro ?_ ?_); first | (with_reducible rfl) | assumption | (simp only [go_sem]; done)))
      refine ret_at hq _ (.inl rfl) (by simp) ?_
      have e2 : turnL l i k = turnP l i k (k + 1 - i) := by rw [← turnP_all hik hk, he, List.drop_length, List.append_nil]
      simp [go_sem, e2]
      omega
    · have e1 : ((k : Int) + 1 = (l.length : Int)) = False := eq_false (by omega)
      have t1 : ((k : Int) + 1).toNat = k + 1 := by omega
      have e0 : (0 < (k : Int) + 1) = True := eq_true (by omega)
      repeat (first | (simp only [go_sem, Int.reduceLT, Int.reduceLE, Int.reduceEq, Int.reduceToNat, Int.not_le.2 hc, (get_app hb), hfl, hn1, hd1, hd2, hx, e0, e1, hl2, hn2, t1, segI]) | ((with_reducible refine And.intro ?_ ?_); omega) | ((with_reducible refine And.intro ?_ ?_); first | (with_reducible rfl) | assumption | (simp only [go_sem]; done)))
      refine ret_at hq _ (.inl rfl) (by simp) ?_
      have e2 : (l.drop (k + 1)).take (l.length - (k + 1)) = l.drop (k + 1) := List.take_of_length_le (by simp)
      simp [go_sem, ← turnP_all hik hk, e2]
      omega
  · have t1 : ((k : Int) - m).toNat = k - m := by omega
    have hj : k - m < l.length := by omega
    have hcel := (At.mk0 (H := []) (L := []) (cs := l.flatMap i64C) (t := 0) (k := .own 1) rfl).i64 hj
    simp only [Nat.zero_add] at hcel
    have hs := turnP_succ hik hk (show m < k + 1 - i by omega)
    repeat (first | (simp only [go_sem, Int.reduceLT, Int.reduceLE, Int.reduceEq, Int.reduceToNat, hc, (get_app hb), hfl, hn1, hd1, hd2, hx, hl2, hn2, t1, hcel]) | ((with_reducible refine And.intro ?_ ?_); omega) | ((with_reducible refine And.intro ?_ ?_); first | (with_reducible rfl) | assumption | (simp only [go_sem]; done)))
    refine EK_again (m + 1) ?_ (by omega) (by omega)
    rw [hs, flat_snoc]
    exact Weak.keepN rfl (by simp [go_sem] <;> omega) (by simp [hx]) (by simp [go_sem, flat_i64.lts, i64C] <;> omega) (hw.app (by simp [go_sem, flat_i64.lts, i64C] <;> omega))
end Go.Proofs.Ytjkkallcgplgmaa

