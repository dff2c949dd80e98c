/- Contracts of functions of the translated program, by the walk. -/
import Derived.Test.YtjkkallcgplgmaaB3
import Derived.Test.YtjkkallcgplgmaaLD
set_option linter.unusedVariables false
set_option linter.unusedSimpArgs false
set_option maxRecDepth 8000
set_option maxHeartbeats 4000000
namespace Go.Proofs.Ytjkkallcgplgmaa
open Go Go.Sx
def xorF (f g : Nat → Int) (j : Nat) : Int := bits .xor .u16 (f j) (g j)
theorem differ1 {H : List Blk} {x y : Int} : Cal Try.prog 133 [.v (.int .u16 x), .v (.int .u16 y)] H fun v H' => v = .v (.int .u16 (bits .xor .u16 x y)) ∧ H' = H := by
  refine cal_fn 6 mixed Try.func133 Try.ntmps133 Try.results133 rfl rfl rfl fun hw cx hx hq => ?_
  simp only [go_sem]
  refine ret_same hq _ (.inl rfl) ?_
  simp only [go_sem]
theorem differ {H : List Blk} {f g : Nat → Int} : Cal Try.prog 112 [.a (rowL .u16 12 (f)), .a (rowL .u16 12 (g))] H fun v H' => v = .a (rowL .u16 12 (xorF f g)) ∧ H' = H := by
  refine cal_fn 6 mixed Try.func112 Try.ntmps112 Try.results112 rfl rfl rfl fun hw cx hx hq => ?_
  repeat (first | (simp only [go_sem, Int.reduceLT, Int.reduceLE, Int.reduceEq, Int.reduceToNat, rowL_rep]) | ((with_reducible refine And.intro ?_ ?_); omega) | ((with_reducible refine isSK ?_); first | (refine call_ret (mix (h := xorF f g) fun j _ L => differ1) (by simp only [go_sem, Int.reduceLT, Int.reduceLE, Int.reduceEq, Int.reduceToNat, rowL_rep]) ?_)) | ((with_reducible refine isMC ?_); first | (refine mcall_ret (mix (h := xorF f g) fun j _ L => differ1) (by simp only [go_sem, Int.reduceLT, Int.reduceLE, Int.reduceEq, Int.reduceToNat, rowL_rep]) (by simp only [go_sem, Int.reduceLT, Int.reduceLE, Int.reduceEq, Int.reduceToNat, rowL_rep]) ?_)) | ((with_reducible refine And.intro ?_ ?_); first | (with_reducible rfl) | assumption | (simp only [go_sem]; done)))
  refine ret_cut hq hw _ (.inl rfl) ?_
  simp only [go_sem]
theorem xorF_12 {f g : Nat → Int} (h : F12 f) (h2 : F12 g) : F12 (xorF f g) := fun j hj => by
  have a := h j hj
  have b := h2 j hj
  unfold xorF
  rw [u16_xor _ _ a.1 (by omega) b.1 (by omega)]
  have := Nat.xor_lt_two_pow (n := 12) (x := (f j).toNat) (y := (g j).toNat) (by omega) (by omega)
  omega
def jumpF (f g : Nat → Int) : Int := (dotsF (xorF f g)).length
theorem jumpF_le (f g : Nat → Int) : 0 ≤ jumpF f g ∧ jumpF f g ≤ 144 := by unfold jumpF; have := dotsF_le (xorF f g); omega
theorem l01Count {H : List Blk} {i off : Nat} {f : Nat → Int} {b : Blk} (h : At H i off (rowL .u16 12 (f)) b) (hf : R16 f) : Cal Try.prog 128 [.p i off] H fun v H' => v = .v (.int .i64 (dotsF f).length) ∧ H' = H := by
  refine cal_fn 5 mixed Try.func128 Try.ntmps128 Try.results128 rfl rfl rfl fun hw cx hx hq => ?_
  repeat (first | (simp only [go_sem, Int.reduceLT, Int.reduceLE, Int.reduceEq, Int.reduceToNat]) | ((with_reducible refine And.intro ?_ ?_); omega) | ((with_reducible refine isSK ?_); first | (refine call_ret (l01Dots h hf) (by simp only [go_sem, Int.reduceLT, Int.reduceLE, Int.reduceEq, Int.reduceToNat]) ?_)) | ((with_reducible refine isMC ?_); first | (refine mcall_ret (l01Dots h hf) (by simp only [go_sem, Int.reduceLT, Int.reduceLE, Int.reduceEq, Int.reduceToNat]) (by simp only [go_sem, Int.reduceLT, Int.reduceLE, Int.reduceEq, Int.reduceToNat]) ?_)) | ((with_reducible refine And.intro ?_ ?_); first | (with_reducible rfl) | assumption | (simp only [go_sem]; done)))
  refine ret_cut hq hw _ (.inl rfl) ?_
  simp only [go_sem]
theorem l01Differ {H : List Blk} {i off j o2 : Nat} {f g : Nat → Int} {b b2 : Blk} (h : At H i off (rowL .u16 12 (f)) b) (h2 : At H j o2 (rowL .u16 12 (g)) b2) (hf : F12 f) (hg : F12 g) : Cal Try.prog 109 [.p i off, .p j o2] H fun v H' => v = .v (.int .i64 (jumpF f g)) ∧ H' = H := by
  refine cal_fn 24 mixed Try.func109 Try.ntmps109 Try.results109 rfl rfl rfl fun hw cx hx hq => ?_
  simp only [go_sem, rowL_rep]
  refine WK_for (fun n : Nat => ⟨[.p i off, .p j o2, .any, .any, .any, .p H.length 0, .v (.int .i64 n)] ++ junk 19, H ++ [⟨rowL .u16 12 (pfx (xorF f g) (fun _ => 0) n), 64, .fix⟩]⟩) (fun n => n ≤ 12) (fun n => 12 - n) 0 (Weak.slots ?_) ?_ fun n hn => ?_
  · simp [go_sem, pfx_zero]
  · simp
  rcases Int.lt_or_le (n : Int) 12 with hc | hc
  · have hj : n < 12 := by omega
    have l1 := h.len (by simp [go_sem])
    have l2 := h2.len (by simp [go_sem])
    simp only [go_sem] at l1 l2
    repeat (first | (simp only [go_sem, Int.reduceLT, Int.reduceLE, Int.reduceEq, Int.reduceToNat, hc, h.lt, h.get, h.live, h.cel hj, h2.lt, h2.get, h2.live, h2.cel hj]) | ((with_reducible refine And.intro ?_ ?_); omega) | ((with_reducible refine isWKr (id := 5) ?_); refine WK_drawAt 5 [[],[],[],[1],[1,2,3],[1,2,3,4],[],[],[6],[6,7,8],[6,7,8,9],[1,2,3,4,5,6,7,8,9,10],[0,1,2,3,4,5,6,7,8,9,10,11],[0,1,2,3,4,5,6,7,8,9,10,11,12]] (by kernel_rfl) ?_) | ((with_reducible refine And.intro ?_ ?_); first | (with_reducible rfl) | assumption | (simp only [go_sem]; done)))
    refine EK_again (n + 1) ?_ (by omega) (by omega)
    rw [wr_pfx .u16 (xorF f g) _ hj (show bits .xor .u16 (f n) (g n) = xorF f g n from rfl)]
    exact Weak.slots (by simp [go_sem])
  · have : n = 12 := by omega
    subst this
    repeat (first | (simp only [go_sem, Int.reduceLT, Int.reduceLE, Int.reduceEq, Int.reduceToNat, Int.not_lt.2 hc, pfx_all]) | ((with_reducible refine And.intro ?_ ?_); omega) | ((with_reducible refine isSK ?_); first | (refine call_ret (l01Count (At.mk0 rfl) (xorF_12 hf hg).r16) (by simp only [go_sem, Int.reduceLT, Int.reduceLE, Int.reduceEq, Int.reduceToNat, Int.not_lt.2 hc, pfx_all]) ?_)) | ((with_reducible refine isMC ?_); first | (refine mcall_ret (l01Count (At.mk0 rfl) (xorF_12 hf hg).r16) (by simp only [go_sem, Int.reduceLT, Int.reduceLE, Int.reduceEq, Int.reduceToNat, Int.not_lt.2 hc, pfx_all]) (by simp only [go_sem, Int.reduceLT, Int.reduceLE, Int.reduceEq, Int.reduceToNat, Int.not_lt.2 hc, pfx_all]) ?_)) | ((with_reducible refine isWKr (id := 5) ?_); refine WK_drawAt 5 [[],[],[],[1],[1,2,3],[1,2,3,4],[],[],[6],[6,7,8],[6,7,8,9],[1,2,3,4,5,6,7,8,9,10],[0,1,2,3,4,5,6,7,8,9,10,11],[0,1,2,3,4,5,6,7,8,9,10,11,12]] (by kernel_rfl) ?_) | ((with_reducible refine And.intro ?_ ?_); first | (with_reducible rfl) | assumption | (simp only [go_sem]; done)))
    refine ret_cut hq hw _ (.inl rfl) ?_
    simp only [go_sem, jumpF]
end Go.Proofs.Ytjkkallcgplgmaa

