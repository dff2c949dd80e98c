/- Contracts of functions of the translated program, by the walk. -/
import Derived.Test.YtheeehjgmifclaaS4
import Derived.Test.YtheeehjgmifclaaC5
set_option linter.unusedVariables false
set_option linter.unusedSimpArgs false
set_option maxRecDepth 8000
set_option maxHeartbeats 4000000
namespace Go.Proofs.Ytheeehjgmifclaa
open Go Go.Sx
theorem movI_far {f : Nat → Int} (h : F12 f) {e : Int} (s : Int) (he : (decide (-12 ≤ e) && decide (e ≤ 12)) = false) (k : IntKind) : rowL k 12 (movI f e s) = rowL k 12 (fun _ => 0) := by
  apply rowL_ext
  refine dot_ext (movI_r16 h.r16 e s) zeroF_r16 fun x y hx hy => ?_
  rw [dot_movI h hy, show dot (fun _ => 0) x y = false from dot_zero x y, Bool.eq_false_iff]
  simp only [ne_eq, Bool.and_eq_true, decide_eq_true_eq, placeB_iff]
  rintro ⟨_, ⟨⟨h1, h2⟩, _⟩, _⟩
  have : ¬ (-12 ≤ e ∧ e ≤ 12) := fun ⟨a, b⟩ => by simp [a, b] at he
  omega
theorem movedAny {H : List Blk} {f : Nat → Int} {e s : Int} (hf : F12 f) (hs : -1000 ≤ s ∧ s ≤ 1000) :
    Cal Try.prog 135 [.a (rowL .u16 12 (f)), .v (.int .i64 e), .v (.int .i64 s)] H fun v H' => v = .a (rowL .u16 12 (movI f e s)) ∧ H' = H := by
  cases he : (decide (-12 ≤ e) && decide (e ≤ 12))
  case true => exact moved hf.r16 (by simpa using he) hs
  have e1 := movI_far hf s he .u16
  refine cal_fn 41 mixed Try.func135 Try.ntmps135 Try.results135 rfl rfl rfl fun hw cx hx hq => ?_
  repeat (first | (simp only [go_sem, Int.reduceLT, Int.reduceLE, Int.reduceEq, Int.reduceToNat, rowL_rep, he, e1]) | ((with_reducible refine And.intro ?_ ?_); omega) | ((with_reducible refine isSK ?_); first | (refine call_ret (inRange) (by simp only [go_sem, Int.reduceLT, Int.reduceLE, Int.reduceEq, Int.reduceToNat, rowL_rep, he, e1]) ?_)) | ((with_reducible refine isMC ?_); first | (refine mcall_ret (inRange) (by simp only [go_sem, Int.reduceLT, Int.reduceLE, Int.reduceEq, Int.reduceToNat, rowL_rep, he, e1]) (by simp only [go_sem, Int.reduceLT, Int.reduceLE, Int.reduceEq, Int.reduceToNat, rowL_rep, he, e1]) ?_)) | ((with_reducible refine And.intro ?_ ?_); first | (with_reducible rfl) | assumption | (simp only [go_sem]; done)))
  refine ret_cut hq hw _ (.inl rfl) ?_
  simp [go_sem, e1, zeroF]
theorem celMovedAny {H : List Blk} {f g : Nat → Int} {e s : Int} (hf : F12 f) (hg : F12 g) (hs : -1000 ≤ s ∧ s ≤ 1000) :
    Cal Try.prog 103 [.a (rowL .u16 12 (f) ++ rowL .u16 12 (g)), .v (.int .i64 e), .v (.int .i64 s)] H fun v H' => v = .a (rowL .u16 12 (movI f e s) ++ rowL .u16 12 (movI g e s)) ∧ H' = H := by
  refine cal_fn 15 mixed Try.func103 Try.ntmps103 Try.results103 rfl rfl rfl fun hw cx hx hq => ?_
  repeat (first | (simp only [go_sem, Int.reduceLT, Int.reduceLE, Int.reduceEq, Int.reduceToNat, rowL_rep, cel0]) | ((with_reducible refine And.intro ?_ ?_); omega) | ((with_reducible refine isSK ?_); first | (refine call_ret (movedAny hf hs) (by simp only [go_sem, Int.reduceLT, Int.reduceLE, Int.reduceEq, Int.reduceToNat, rowL_rep, cel0]) ?_) | (refine call_ret (movedAny hg hs) (by simp only [go_sem, Int.reduceLT, Int.reduceLE, Int.reduceEq, Int.reduceToNat, rowL_rep, cel0]) ?_)) | ((with_reducible refine isMC ?_); first | (refine mcall_ret (movedAny hf hs) (by simp only [go_sem, Int.reduceLT, Int.reduceLE, Int.reduceEq, Int.reduceToNat, rowL_rep, cel0]) (by simp only [go_sem, Int.reduceLT, Int.reduceLE, Int.reduceEq, Int.reduceToNat, rowL_rep, cel0]) ?_) | (refine mcall_ret (movedAny hg hs) (by simp only [go_sem, Int.reduceLT, Int.reduceLE, Int.reduceEq, Int.reduceToNat, rowL_rep, cel0]) (by simp only [go_sem, Int.reduceLT, Int.reduceLE, Int.reduceEq, Int.reduceToNat, rowL_rep, cel0]) ?_)) | ((with_reducible refine isWKr (id := 1) ?_); refine WK_drawAt 1 [[],[0],[],[],[0,1,2,3],[],[5],[],[],[0,1,2,3,4,5,6,7,8],[0,1,2,3,4,5,6,7,8,9],[0,1,2,3,4,5,6,7,8,9,10]] (by kernel_rfl) ?_) | ((with_reducible refine And.intro ?_ ?_); first | (with_reducible rfl) | assumption | (simp only [go_sem]; done)))
  refine ret_cut hq hw _ (.inl rfl) ?_
  simp [go_sem]
/-- A layer's frames, a moved layer's frames. -/
def covL (a : Nat → Int) : Nat → Int := fun j => a (12 + j)
def mvInk (a : Nat → Int) (x y : Int) : Nat → Int := movI a (offE a x) (offS a y)
def mvCov (a : Nat → Int) (x y : Int) : Nat → Int := movI (covL a) (offE a x) (offS a y)
theorem okL_f12 {a : Nat → Int} (h : okL a = true) (hly : LyW a) : F12 a ∧ F12 (covL a) := by
  have h1 : okC a (covL a) = true := by
    unfold okL at h
    simp only [Bool.and_eq_true] at h
    exact h.1
  exact ⟨okF_f12 (okC_iff h1).1 hly.ink, okF_f12 (okC_iff h1).2 hly.cov⟩
theorem off_range {a : Nat → Int} {x y : Int} (ho : okL a = true) (hx : -100 ≤ x ∧ x ≤ 100) (hy : -100 ≤ y ∧ y ≤ 100) : (-112 ≤ offE a x ∧ offE a x ≤ 112) ∧ (-112 ≤ offS a y ∧ offS a y ≤ 112) := by
  have hs := okL_share ho
  have r1 := eig_range hx hs.2.2
  have r2 := eig_range hy hs.2.2
  unfold offE offS; omega
/-- The one cel of the first layers. -/
def flN (l : List (Nat → Int)) (x y : Int) : Nat → (Nat → Int) × (Nat → Int)
  | 0 => (fun _ => 0, fun _ => 0)
  | n + 1 => (joinF (flN l x y n).1 (lessF (mvInk (ly l n) x y) (flN l x y n).2), joinF (flN l x y n).2 (mvCov (ly l n) x y))
theorem offsetU {H : List Blk} {a : Nat → Int} {p q : Int} (ho : okL a = true) (hp : -100 ≤ p ∧ p ≤ 100) (hq2 : -100 ≤ q ∧ q ≤ 100) : Cal Try.prog 116 [.a (rowL .u16 12 (a) ++ (rowL .u16 12 (covL a) ++ tailL a)), .v (.int .i64 p), .v (.int .i64 q)] H fun v H' => v = .t [.v (.int .i64 (offE a p)), .v (.int .i64 (offS a q))] ∧ H' = H := offset ho hp hq2
theorem flat {H : List Blk} {v : V} {l : List (Nat → Int)} {x y : Int} (h : Rd H v encL l) (hm : l.length ≤ 1000000) (hly : ∀ a ∈ l, LyW a) (hok : ∀ a ∈ l, okL a = true) (hpx : -100 ≤ x ∧ x ≤ 100) (hpy : -100 ≤ y ∧ y ≤ 100) :
    Cal Try.prog 79 [v, .v (.int .i64 x), .v (.int .i64 y)] H fun u H' => u = .a (rowL .u16 12 ((flN l x y l.length).1) ++ rowL .u16 12 ((flN l x y l.length).2)) ∧ H' = H := by
  have hsol := h.solid
  have hL := h.lenV (P := Try.prog) slTy25
  refine cal_fn 27 mixed Try.func79 Try.ntmps79 Try.results79 rfl rfl rfl fun hw cx hx hq => ?_
  repeat (first | (simp only [go_sem, Int.reduceLT, Int.reduceLE, Int.reduceEq, Int.reduceToNat, hsol, hL, rowL_rep, cel0]) | ((with_reducible refine And.intro ?_ ?_); omega) | ((with_reducible refine isWKr (id := 5) ?_); refine WK_drawAt 5 [[],[],[1],[],[],[],[3,4,5],[3,4,5,6],[3,4,5,6],[1,2,3,4,5,6,7,8],[0,1,2,3,4,5,6,7,8,9],[0,1,2,3,4,5,6,7,8,9,10]] (by kernel_rfl) ?_) | ((with_reducible refine And.intro ?_ ?_); first | (with_reducible rfl) | assumption | (simp only [go_sem]; done)))
  refine WK_for (fun n : Nat => ⟨[v, .v (.int .i64 x), .v (.int .i64 y), .any, .any, .any, .p H.length 0, .p (H.length + 1) 0, .any, .any, .any, v, .v (.int .i64 l.length), .v (.int .i64 n)] ++ junk 16, H ++ [⟨rowL .u16 12 (fun _ => 0) ++ rowL .u16 12 (fun _ => 0), 42, .fix⟩, ⟨rowL .u16 12 ((flN l x y n).1) ++ rowL .u16 12 ((flN l x y n).2), 42, .fix⟩]⟩) (fun n => n ≤ l.length) (fun n => l.length - n) 0 (Weak.slots ?_) ?_ fun n hn => ?_
  · simp [go_sem, flN]
  · simp
  rcases Int.lt_or_le (n : Int) l.length with hc | hc
  · have hj : n < l.length := by omega
    obtain ⟨i, off, c, bl, rfl, hat⟩ := h.row (by omega)
    have hil := hat.lt
    have hel : seg bl.cells (off + n * 27) 27 = rowL .u16 12 (l[n]) ++ (rowL .u16 12 (covL l[n]) ++ tailL l[n]) := hat.elem encL 27 encL_len hj
    have hfit := hat.fits encL 27 encL_len hj (by omega)
    have hmem := List.getElem_mem hj
    have ho := hok _ hmem
    have hf := okL_f12 ho (hly _ hmem)
    have hr := off_range ho hpx hpy
    have e2 : flN l x y (n + 1) = (joinF (flN l x y n).1 (lessF (mvInk l[n] x y) (flN l x y n).2), joinF (flN l x y n).2 (mvCov l[n] x y)) := by rw [flN, ly_at hj]
    generalize l[n] = a at hel ho hf hr e2
    have htl : (tailL a).length = 3 := rfl
    have hwz : ∀ z : List V, z.length = 27 → wr z 0 (rowL .u16 12 (a) ++ (rowL .u16 12 (covL a) ++ tailL a)) = rowL .u16 12 (a) ++ (rowL .u16 12 (covL a) ++ tailL a) := fun z hz => wr_whole _ _ (by rw [hz]; simp [rowL_length, tailL])
    repeat (first | (simp only [go_sem, Int.reduceLT, Int.reduceLE, Int.reduceEq, Int.reduceToNat, hc, (get_app hat.get), hat.live, hel, segL24, rowL_rep, cel0, htl, hwz]) | ((with_reducible refine And.intro ?_ ?_); omega) | ((with_reducible refine isSK ?_); first | (refine call_ret (offsetU ho hpx hpy) (by simp only [go_sem, Int.reduceLT, Int.reduceLE, Int.reduceEq, Int.reduceToNat, hc, (get_app hat.get), hat.live, hel, segL24, rowL_rep, cel0, htl, hwz]) ?_) | (refine call_ret (celMovedAny hf.1 hf.2 (by omega)) (by simp only [go_sem, Int.reduceLT, Int.reduceLE, Int.reduceEq, Int.reduceToNat, hc, (get_app hat.get), hat.live, hel, segL24, rowL_rep, cel0, htl, hwz]) ?_) | (refine call_ret (over) (by simp only [go_sem, Int.reduceLT, Int.reduceLE, Int.reduceEq, Int.reduceToNat, hc, (get_app hat.get), hat.live, hel, segL24, rowL_rep, cel0, htl, hwz]) ?_)) | ((with_reducible refine isMC ?_); first | (refine mcall_ret (offsetU ho hpx hpy) (by simp only [go_sem, Int.reduceLT, Int.reduceLE, Int.reduceEq, Int.reduceToNat, hc, (get_app hat.get), hat.live, hel, segL24, rowL_rep, cel0, htl, hwz]) (by simp only [go_sem, Int.reduceLT, Int.reduceLE, Int.reduceEq, Int.reduceToNat, hc, (get_app hat.get), hat.live, hel, segL24, rowL_rep, cel0, htl, hwz]) ?_) | (refine mcall_ret (celMovedAny hf.1 hf.2 (by omega)) (by simp only [go_sem, Int.reduceLT, Int.reduceLE, Int.reduceEq, Int.reduceToNat, hc, (get_app hat.get), hat.live, hel, segL24, rowL_rep, cel0, htl, hwz]) (by simp only [go_sem, Int.reduceLT, Int.reduceLE, Int.reduceEq, Int.reduceToNat, hc, (get_app hat.get), hat.live, hel, segL24, rowL_rep, cel0, htl, hwz]) ?_) | (refine mcall_ret (over) (by simp only [go_sem, Int.reduceLT, Int.reduceLE, Int.reduceEq, Int.reduceToNat, hc, (get_app hat.get), hat.live, hel, segL24, rowL_rep, cel0, htl, hwz]) (by simp only [go_sem, Int.reduceLT, Int.reduceLE, Int.reduceEq, Int.reduceToNat, hc, (get_app hat.get), hat.live, hel, segL24, rowL_rep, cel0, htl, hwz]) ?_)) | ((with_reducible refine isWKr (id := 5) ?_); refine WK_drawAt 5 [[],[],[1],[],[],[],[3,4,5],[3,4,5,6],[3,4,5,6],[1,2,3,4,5,6,7,8],[0,1,2,3,4,5,6,7,8,9],[0,1,2,3,4,5,6,7,8,9,10]] (by kernel_rfl) ?_) | ((with_reducible refine And.intro ?_ ?_); first | (with_reducible rfl) | assumption | (simp only [go_sem]; done)))
    refine EK_again (n + 1) ?_ (by omega) (by omega)
    rw [e2]
    unfold mvInk mvCov
    exact Weak.keepN rfl (by simp [go_sem]) (by simp [hx]) (by simp [go_sem, hil] <;> omega) (hw.app (by simp [go_sem, hil] <;> omega))
  · have : n = l.length := by omega
    subst this
    repeat (first | (simp only [go_sem, Int.reduceLT, Int.reduceLE, Int.reduceEq, Int.reduceToNat, Int.not_lt.2 hc]) | ((with_reducible refine And.intro ?_ ?_); omega) | ((with_reducible refine isWKr (id := 5) ?_); refine WK_drawAt 5 [[],[],[1],[],[],[],[3,4,5],[3,4,5,6],[3,4,5,6],[1,2,3,4,5,6,7,8],[0,1,2,3,4,5,6,7,8,9],[0,1,2,3,4,5,6,7,8,9,10]] (by kernel_rfl) ?_) | ((with_reducible refine And.intro ?_ ?_); first | (with_reducible rfl) | assumption | (simp only [go_sem]; done)))
    refine ret_cut hq hw _ (.inl rfl) ?_
    simp [go_sem]
theorem l05Flat {H : List Blk} {v : V} {l : List (Nat → Int)} {x y : Int} (h : Rd H v encL l) (hm : l.length ≤ 1000000) (hly : ∀ a ∈ l, LyW a) (hok : ∀ a ∈ l, okL a = true) (hpx : -100 ≤ x ∧ x ≤ 100) (hpy : -100 ≤ y ∧ y ≤ 100) :
    Cal Try.prog 77 [v, .v (.int .i64 x), .v (.int .i64 y)] H fun u H' => u = .a (rowL .u16 12 ((flN l x y l.length).1) ++ rowL .u16 12 ((flN l x y l.length).2)) ∧ H' = H := by
  have hsol := h.solid
  have hL := h.lenV (P := Try.prog) slTy25
  refine cal_fn 34 mixed Try.func77 Try.ntmps77 Try.results77 rfl rfl rfl fun hw cx hx hq => ?_
  repeat (first | (simp only [go_sem, Int.reduceLT, Int.reduceLE, Int.reduceEq, Int.reduceToNat, hsol, hL, rowL_rep, cel0]) | ((with_reducible refine And.intro ?_ ?_); omega) | ((with_reducible refine And.intro ?_ ?_); first | (with_reducible rfl) | assumption | (simp only [go_sem]; done)))
  refine WK_for (fun n : Nat => ⟨[v, .v (.int .i64 x), .v (.int .i64 y), .any, .any, .any, .p H.length 0, .p (H.length + 1) 0, .v (.int .i64 n)] ++ junk 28, H ++ [⟨rowL .u16 12 (fun _ => 0) ++ rowL .u16 12 (fun _ => 0), 42, .fix⟩, ⟨rowL .u16 12 ((flN l x y n).1) ++ rowL .u16 12 ((flN l x y n).2), 42, .fix⟩]⟩) (fun n => n ≤ l.length) (fun n => l.length - n) 0 (Weak.slots ?_) ?_ fun n hn => ?_
  · simp [go_sem, flN]
  · simp
  rcases Int.lt_or_le (n : Int) l.length with hc | hc
  · have hj : n < l.length := by omega
    have hL' := (h.app (L := [⟨rowL .u16 12 (fun _ => 0) ++ rowL .u16 12 (fun _ => 0), 42, .fix⟩, ⟨rowL .u16 12 ((flN l x y n).1) ++ rowL .u16 12 ((flN l x y n).2), 42, .fix⟩])).lenV (P := Try.prog) slTy25
    obtain ⟨i, off, c, bl, rfl, hat⟩ := h.row (by omega)
    have hil := hat.lt
    have hatj := hat.el encL_len hj
    have hmem := List.getElem_mem hj
    have ho := hok _ hmem
    have hf := okL_f12 ho (hly _ hmem)
    have hr := off_range ho hpx hpy
    have e2 : flN l x y (n + 1) = (joinF (flN l x y n).1 (lessF (mvInk l[n] x y) (flN l x y n).2), joinF (flN l x y n).2 (mvCov l[n] x y)) := by rw [flN, ly_at hj]
    generalize l[n] = a at hatj ho hf hr e2
    have hcel : At H i (off + n * 27) (rowL .u16 12 (a) ++ rowL .u16 12 (covL a)) bl := (encL_at hatj).1
    repeat (first | (simp only [go_sem, Int.reduceLT, Int.reduceLE, Int.reduceEq, Int.reduceToNat, hc, (get_app hat.get), hat.live, rowL_rep, cel0]) | ((with_reducible refine And.intro ?_ ?_); omega) | ((with_reducible refine isSK ?_); first | (refine call_ret (l05Offset hatj.app ho hpx hpy) (by simp only [go_sem, Int.reduceLT, Int.reduceLE, Int.reduceEq, Int.reduceToNat, hc, (get_app hat.get), hat.live, rowL_rep, cel0]) ?_) | (refine call_ret (l05Moved hcel.app hf.1 hf.2 (by omega) (by omega)) (by simp only [go_sem, Int.reduceLT, Int.reduceLE, Int.reduceEq, Int.reduceToNat, hc, (get_app hat.get), hat.live, rowL_rep, cel0]) ?_) | (refine call_ret (l05Over (by first | exact At.mk0 rfl | exact At.mk' 1 rfl rfl | exact At.mk' 2 rfl rfl | exact At.mk' 3 rfl rfl | exact At.mk' 4 rfl rfl | exact At.mk' 5 rfl rfl | exact At.mk' 6 rfl rfl | exact At.mk' 7 rfl rfl | exact At.mk' 8 rfl rfl | exact At.mk' 9 rfl rfl | exact At.mk' 10 rfl rfl | exact At.mk' 11 rfl rfl | exact At.mk' 12 rfl rfl | exact At.mk' 13 rfl rfl | exact At.mk' 14 rfl rfl | exact At.mk' 15 rfl rfl) (by first | exact At.mk0 rfl | exact At.mk' 1 rfl rfl | exact At.mk' 2 rfl rfl | exact At.mk' 3 rfl rfl | exact At.mk' 4 rfl rfl | exact At.mk' 5 rfl rfl | exact At.mk' 6 rfl rfl | exact At.mk' 7 rfl rfl | exact At.mk' 8 rfl rfl | exact At.mk' 9 rfl rfl | exact At.mk' 10 rfl rfl | exact At.mk' 11 rfl rfl | exact At.mk' 12 rfl rfl | exact At.mk' 13 rfl rfl | exact At.mk' 14 rfl rfl | exact At.mk' 15 rfl rfl)) (by simp only [go_sem, Int.reduceLT, Int.reduceLE, Int.reduceEq, Int.reduceToNat, hc, (get_app hat.get), hat.live, rowL_rep, cel0]) ?_)) | ((with_reducible refine isMC ?_); first | (refine mcall_ret (l05Offset hatj.app ho hpx hpy) (by simp only [go_sem, Int.reduceLT, Int.reduceLE, Int.reduceEq, Int.reduceToNat, hc, (get_app hat.get), hat.live, rowL_rep, cel0]) (by simp only [go_sem, Int.reduceLT, Int.reduceLE, Int.reduceEq, Int.reduceToNat, hc, (get_app hat.get), hat.live, rowL_rep, cel0]) ?_) | (refine mcall_ret (l05Moved hcel.app hf.1 hf.2 (by omega) (by omega)) (by simp only [go_sem, Int.reduceLT, Int.reduceLE, Int.reduceEq, Int.reduceToNat, hc, (get_app hat.get), hat.live, rowL_rep, cel0]) (by simp only [go_sem, Int.reduceLT, Int.reduceLE, Int.reduceEq, Int.reduceToNat, hc, (get_app hat.get), hat.live, rowL_rep, cel0]) ?_) | (refine mcall_ret (l05Over (by first | exact At.mk0 rfl | exact At.mk' 1 rfl rfl | exact At.mk' 2 rfl rfl | exact At.mk' 3 rfl rfl | exact At.mk' 4 rfl rfl | exact At.mk' 5 rfl rfl | exact At.mk' 6 rfl rfl | exact At.mk' 7 rfl rfl | exact At.mk' 8 rfl rfl | exact At.mk' 9 rfl rfl | exact At.mk' 10 rfl rfl | exact At.mk' 11 rfl rfl | exact At.mk' 12 rfl rfl | exact At.mk' 13 rfl rfl | exact At.mk' 14 rfl rfl | exact At.mk' 15 rfl rfl) (by first | exact At.mk0 rfl | exact At.mk' 1 rfl rfl | exact At.mk' 2 rfl rfl | exact At.mk' 3 rfl rfl | exact At.mk' 4 rfl rfl | exact At.mk' 5 rfl rfl | exact At.mk' 6 rfl rfl | exact At.mk' 7 rfl rfl | exact At.mk' 8 rfl rfl | exact At.mk' 9 rfl rfl | exact At.mk' 10 rfl rfl | exact At.mk' 11 rfl rfl | exact At.mk' 12 rfl rfl | exact At.mk' 13 rfl rfl | exact At.mk' 14 rfl rfl | exact At.mk' 15 rfl rfl)) (by simp only [go_sem, Int.reduceLT, Int.reduceLE, Int.reduceEq, Int.reduceToNat, hc, (get_app hat.get), hat.live, rowL_rep, cel0]) (by simp only [go_sem, Int.reduceLT, Int.reduceLE, Int.reduceEq, Int.reduceToNat, hc, (get_app hat.get), hat.live, rowL_rep, cel0]) ?_)) | ((with_reducible refine And.intro ?_ ?_); first | (with_reducible rfl) | assumption | (simp only [go_sem]; done)))
    refine EK_again (n + 1) ?_ (by omega) (by omega)
    rw [e2]
    unfold mvInk mvCov
    exact Weak.keepN rfl (by simp [go_sem]) (by simp [hx]) (by simp [go_sem, hil] <;> omega) (hw.app (by simp [go_sem, hil] <;> omega))
  · have : n = l.length := by omega
    subst this
    repeat (first | (simp only [go_sem, Int.reduceLT, Int.reduceLE, Int.reduceEq, Int.reduceToNat, hL, Int.not_lt.2 hc]) | ((with_reducible refine And.intro ?_ ?_); omega) | ((with_reducible refine And.intro ?_ ?_); first | (with_reducible rfl) | assumption | (simp only [go_sem]; done)))
    refine ret_cut hq hw _ (.inl rfl) ?_
    simp [go_sem]
end Go.Proofs.Ytheeehjgmifclaa

