/- Contracts of functions of the translated program, by the walk. -/
import Derived.Test.YtheeehjgmifclaaS4
import Derived.Test.YtheeehjgmifclaaC5
set_option linter.unusedVariables false
set_option linter.unusedSimpArgs false
set_option maxRecDepth 8000
set_option maxHeartbeats 4000000
namespace Go.Proofs.Ytheeehjgmifclaa
open Go Go.Sx
theorem movI_f12 {f : Nat → Int} (h : F12 f) (e s : Int) : F12 (movI f e s) := by
  intro j hj
  refine ⟨((movI_r16 h.r16 e s) j hj).1, ?_⟩
  unfold movI
  split
  · rename_i hp
    have h2 := h ((j : Int) - s).toNat (by omega)
    split
    · have := Nat.mod_lt ((f ((j : Int) - s).toNat).toNat * 2 ^ e.toNat) (show 0 < 4096 by omega)
      omega
    · have := Nat.div_le_self (f ((j : Int) - s).toNat).toNat (2 ^ (-e).toNat)
      generalize (f ((j : Int) - s).toNat).toNat / 2 ^ (-e).toNat = q at *
      omega
  · omega
theorem movI_far {f : Nat → Int} (h : F12 f) {e : Int} (s : Int) (he : (decide (-12 ≤ e) && decide (e ≤ 12)) = false) (k : IntKind) : rowL k 12 (movI f e s) = rowL k 12 (fun _ => 0) := by
  apply rowL_ext
  refine dot_ext (movI_r16 h.r16 e s) zeroF_r16 fun x y hx hy => ?_
  rw [dot_movI h hy, show dot (fun _ => 0) x y = false from dot_zero x y, Bool.eq_false_iff]
  simp only [ne_eq, Bool.and_eq_true, decide_eq_true_eq, placeB_iff]
  rintro ⟨_, ⟨⟨h1, h2⟩, _⟩, _⟩
  have : ¬ (-12 ≤ e ∧ e ≤ 12) := fun ⟨a, b⟩ => by simp [a, b] at he
  omega
theorem movedAny {H : List Blk} {f : Nat → Int} {e s : Int} (hf : F12 f) (hs : -1000 ≤ s ∧ s ≤ 1000) :
    Cal Try.prog 135 [.a (rowL .u16 12 (f)), .v (.int .i64 e), .v (.int .i64 s)] H fun v H' => v = .a (rowL .u16 12 (movI f e s)) ∧ H' = H := by
  cases he : (decide (-12 ≤ e) && decide (e ≤ 12))
  case true => exact moved hf.r16 (by simpa using he) hs
  have e1 := movI_far hf s he .u16
  refine cal_fn 41 mixed Try.func135 Try.ntmps135 Try.results135 rfl rfl rfl fun hw cx hx hq => ?_
  repeat (first | (simp only [go_sem, Int.reduceLT, Int.reduceLE, Int.reduceEq, Int.reduceToNat, rowL_rep, he, e1]) | ((with_reducible refine And.intro ?_ ?_); omega) | ((with_reducible refine isSK ?_); first | (refine call_ret (inRange) (by simp only [go_sem, Int.reduceLT, Int.reduceLE, Int.reduceEq, Int.reduceToNat, rowL_rep, he, e1]) ?_)) | ((with_reducible refine isMC ?_); first | (refine mcall_ret (inRange) (by simp only [go_sem, Int.reduceLT, Int.reduceLE, Int.reduceEq, Int.reduceToNat, rowL_rep, he, e1]) (by simp only [go_sem, Int.reduceLT, Int.reduceLE, Int.reduceEq, Int.reduceToNat, rowL_rep, he, e1]) ?_)) | ((with_reducible refine And.intro ?_ ?_); first | (with_reducible rfl) | assumption | (simp only [go_sem]; done)))
  refine ret_cut hq hw _ (.inl rfl) ?_
  simp [go_sem, e1, zeroF]
theorem celMovedAny {H : List Blk} {f g : Nat → Int} {e s : Int} (hf : F12 f) (hg : F12 g) (hs : -1000 ≤ s ∧ s ≤ 1000) :
    Cal Try.prog 103 [.a (rowL .u16 12 (f) ++ rowL .u16 12 (g)), .v (.int .i64 e), .v (.int .i64 s)] H fun v H' => v = .a (rowL .u16 12 (movI f e s) ++ rowL .u16 12 (movI g e s)) ∧ H' = H := by
  refine cal_fn 15 mixed Try.func103 Try.ntmps103 Try.results103 rfl rfl rfl fun hw cx hx hq => ?_
  repeat (first | (simp only [go_sem, Int.reduceLT, Int.reduceLE, Int.reduceEq, Int.reduceToNat, rowL_rep, cel0]) | ((with_reducible refine And.intro ?_ ?_); omega) | ((with_reducible refine isSK ?_); first | (refine call_ret (movedAny hf hs) (by simp only [go_sem, Int.reduceLT, Int.reduceLE, Int.reduceEq, Int.reduceToNat, rowL_rep, cel0]) ?_) | (refine call_ret (movedAny hg hs) (by simp only [go_sem, Int.reduceLT, Int.reduceLE, Int.reduceEq, Int.reduceToNat, rowL_rep, cel0]) ?_)) | ((with_reducible refine isMC ?_); first | (refine mcall_ret (movedAny hf hs) (by simp only [go_sem, Int.reduceLT, Int.reduceLE, Int.reduceEq, Int.reduceToNat, rowL_rep, cel0]) (by simp only [go_sem, Int.reduceLT, Int.reduceLE, Int.reduceEq, Int.reduceToNat, rowL_rep, cel0]) ?_) | (refine mcall_ret (movedAny hg hs) (by simp only [go_sem, Int.reduceLT, Int.reduceLE, Int.reduceEq, Int.reduceToNat, rowL_rep, cel0]) (by simp only [go_sem, Int.reduceLT, Int.reduceLE, Int.reduceEq, Int.reduceToNat, rowL_rep, cel0]) ?_)) | ((with_reducible refine isWKr (id := 1) ?_); refine WK_drawAt 1 [[],[0],[],[],[0,1,2,3],[],[5],[],[],[0,1,2,3,4,5,6,7,8],[0,1,2,3,4,5,6,7,8,9],[0,1,2,3,4,5,6,7,8,9,10]] (by kernel_rfl) ?_) | ((with_reducible refine And.intro ?_ ?_); first | (with_reducible rfl) | assumption | (simp only [go_sem]; done)))
  refine ret_cut hq hw _ (.inl rfl) ?_
  simp [go_sem]
/-- A layer's frames, a moved layer's frames. -/
def covL (a : Nat → Int) : Nat → Int := fun j => a (12 + j)
def mvCov (a : Nat → Int) (x y : Int) : Nat → Int := movI (covL a) (offE a x) (offS a y)
theorem okL_f12 {a : Nat → Int} (h : okL a = true) (hly : LyW a) : F12 a ∧ F12 (covL a) := by
  have h1 : okC a (covL a) = true := by
    unfold okL at h
    simp only [Bool.and_eq_true] at h
    exact h.1
  exact ⟨okF_f12 (okC_iff h1).1 hly.ink, okF_f12 (okC_iff h1).2 hly.cov⟩
theorem off_range {a : Nat → Int} {x y : Int} (ho : okL a = true) (hx : -100 ≤ x ∧ x ≤ 100) (hy : -100 ≤ y ∧ y ≤ 100) : (-112 ≤ offE a x ∧ offE a x ≤ 112) ∧ (-112 ≤ offS a y ∧ offS a y ≤ 112) := by
  have hs := okL_share ho
  have r1 := eig_range hx hs.2.2
  have r2 := eig_range hy hs.2.2
  unfold offE offS; omega
theorem offsetU {H : List Blk} {a : Nat → Int} {p q : Int} (ho : okL a = true) (hp : -100 ≤ p ∧ p ≤ 100) (hq2 : -100 ≤ q ∧ q ≤ 100) : Cal Try.prog 116 [.a (rowL .u16 12 (a) ++ (rowL .u16 12 (covL a) ++ tailL a)), .v (.int .i64 p), .v (.int .i64 q)] H fun v H' => v = .t [.v (.int .i64 (offE a p)), .v (.int .i64 (offS a q))] ∧ H' = H := offset ho hp hq2
end Go.Proofs.Ytheeehjgmifclaa

