/- Contracts of functions of the translated program, by the walk. -/
import Derived.Test.YtheeehjgmifclaaS6
set_option linter.unusedVariables false
set_option linter.unusedSimpArgs false
set_option maxRecDepth 8000
set_option maxHeartbeats 4000000
namespace Go.Proofs.Ytheeehjgmifclaa
open Go Go.Sx
/-- What the first layers cover; where each is seen. -/
def covN (l : List (Nat → Int)) (x y : Int) : Nat → (Nat → Int)
  | 0 => fun _ => 0
  | n + 1 => joinF (covN l x y n) (mvCov (ly l n) x y)
def seeF (l : List (Nat → Int)) (x y : Int) (k : Nat) : Nat → Int := lessF (mvCov (ly l k) x y) (covN l x y k)
def seen_ (l : List (Nat → Int)) (x y : Int) (n : Nat) : List (Nat → Int) := (List.range n).map (seeF l x y)
theorem seen_len (l : List (Nat → Int)) (x y : Int) (n : Nat) : (seen_ l x y n).length = n := by simp [seen_]
theorem seen_succ (l : List (Nat → Int)) (x y : Int) (n : Nat) : seen_ l x y (n + 1) = seen_ l x y n ++ [seeF l x y n] := by simp [seen_, List.range_succ]
theorem flat_snoc {α : Type} (enc : α → List V) (l : List α) (a : α) : (l ++ [a]).flatMap enc = l.flatMap enc ++ enc a := by simp
theorem seen {H : List Blk} {v : V} {l : List (Nat → Int)} {x y : Int} (h : Rd H v encL l) (hm : l.length ≤ 1000000) (hly : ∀ a ∈ l, LyW a) (hok : ∀ a ∈ l, okL a = true) (hpx : -100 ≤ x ∧ x ≤ 100) (hpy : -100 ≤ y ∧ y ≤ 100) :
    Cal Try.prog 85 [v, .v (.int .i64 x), .v (.int .i64 y)] H fun u H' => u = .s H.length 0 l.length (.u 0) ∧ H' = H ++ [⟨(seen_ l x y l.length).flatMap (rowL .u16 12), 40, .own 12⟩] := by
  have hsol := h.solid
  have hL := h.lenV (P := Try.prog) slTy25
  refine cal_fn 38 mixed Try.func85 Try.ntmps85 Try.results85 rfl rfl rfl fun hw cx hx hq => ?_
  repeat (first | (simp only [go_sem, Int.reduceLT, Int.reduceLE, Int.reduceEq, Int.reduceToNat, hsol, hL, rowL_rep, cel0]) | ((with_reducible refine And.intro ?_ ?_); omega) | ((with_reducible refine isWKr (id := 5) ?_); refine WK_drawAt 5 [[],[0],[],[],[],[2,3,4],[2,3,4,5],[2,3,4,5],[0,1,2,3,4,5,6,7],[0,1,2,3,4,5,6,7,8],[],[0,1,2,3,4,5,6,7,8,9,10]] (by kernel_rfl) ?_) | ((with_reducible refine And.intro ?_ ?_); first | (with_reducible rfl) | assumption | (simp only [go_sem]; done)))
  refine WK_for (fun n : Nat => ⟨[v, .v (.int .i64 x), .v (.int .i64 y), .any, .any, .any, .any, .s H.length 0 n (.u 0), .p (H.length + 1) 0, .any, .any, .any, .any, .any, v, .v (.int .i64 l.length), .v (.int .i64 n)] ++ junk 24, H ++ [⟨(seen_ l x y n).flatMap (rowL .u16 12), 40, .own 12⟩, ⟨rowL .u16 12 (covN l x y n), 40, .fix⟩]⟩) (fun n => n ≤ l.length) (fun n => l.length - n) 0 (Weak.slots ?_) ?_ fun n hn => ?_
  · simp [go_sem, covN, seen_]
  · simp
  rcases Int.lt_or_le (n : Int) l.length with hc | hc
  · have hj : n < l.length := by omega
    obtain ⟨i, off, c, bl, rfl, hat⟩ := h.row (by omega)
    have hil := hat.lt
    have hel : seg bl.cells (off + n * 27) 27 = rowL .u16 12 (l[n]) ++ (rowL .u16 12 (covL l[n]) ++ tailL l[n]) := hat.elem encL 27 encL_len hj
    have hfit := hat.fits encL 27 encL_len hj (by omega)
    have hmem := List.getElem_mem hj
    have ho := hok _ hmem
    have hf := okL_f12 ho (hly _ hmem)
    have hr := off_range ho hpx hpy
    have e2 : covN l x y (n + 1) = joinF (covN l x y n) (mvCov l[n] x y) := by rw [covN, ly_at hj]
    have e3 : seen_ l x y (n + 1) = seen_ l x y n ++ [lessF (mvCov l[n] x y) (covN l x y n)] := by rw [seen_succ, seeF, ly_at hj]
    generalize l[n] = a at hel ho hf hr e2 e3
    have htl : (tailL a).length = 3 := rfl
    have hwz : ∀ z : List V, z.length = 27 → wr z 0 (rowL .u16 12 (a) ++ (rowL .u16 12 (covL a) ++ tailL a)) = rowL .u16 12 (a) ++ (rowL .u16 12 (covL a) ++ tailL a) := fun z hz => wr_whole _ _ (by rw [hz]; simp [rowL_length, tailL])
    have hl2 : ((seen_ l x y n).flatMap (rowL .u16 12)).length = n * 12 := by rw [flat_len _ 12 (fun _ => rowL_length ..), seen_len]
    have hn1 : norefH H.length H := norefH_wf hw (Nat.le_refl _)
    have hn2 : norefs H.length ((seen_ l x y n).flatMap (rowL .u16 12)) = true := (flat_rowL .u16 12).norefs _ _
    have hij : (i = H.length) = False := eq_false (by omega)
    have hd1 : (H.length + 1 = H.length) = False := eq_false (by omega)
    have hd2 : (H.length + 2 = H.length) = False := eq_false (by omega)
    have hd3 : (H.length + 3 = H.length) = False := eq_false (by omega)
    have hd4 : (H.length + 4 = H.length) = False := eq_false (by omega)
    have hnt : ∀ m, norefs m (tailL a) = true := fun _ => rfl
    repeat (first | (simp only [go_sem, Int.reduceLT, Int.reduceLE, Int.reduceEq, Int.reduceToNat, hc, (get_app hat.get), hat.live, hel, segL24, rowL_rep, cel0, htl, hwz, hl2, hn1, hn2, hij, hd1, hd2, hd3, hd4, hnt, hx]) | ((with_reducible refine And.intro ?_ ?_); omega) | ((with_reducible refine isSK ?_); first | (refine call_ret (offsetU ho hpx hpy) (by simp only [go_sem, Int.reduceLT, Int.reduceLE, Int.reduceEq, Int.reduceToNat, hc, (get_app hat.get), hat.live, hel, segL24, rowL_rep, cel0, htl, hwz, hl2, hn1, hn2, hij, hd1, hd2, hd3, hd4, hnt, hx]) ?_) | (refine call_ret (celMovedAny hf.1 hf.2 (by omega)) (by simp only [go_sem, Int.reduceLT, Int.reduceLE, Int.reduceEq, Int.reduceToNat, hc, (get_app hat.get), hat.live, hel, segL24, rowL_rep, cel0, htl, hwz, hl2, hn1, hn2, hij, hd1, hd2, hd3, hd4, hnt, hx]) ?_) | (refine call_ret (less) (by simp only [go_sem, Int.reduceLT, Int.reduceLE, Int.reduceEq, Int.reduceToNat, hc, (get_app hat.get), hat.live, hel, segL24, rowL_rep, cel0, htl, hwz, hl2, hn1, hn2, hij, hd1, hd2, hd3, hd4, hnt, hx]) ?_) | (refine call_ret (join) (by simp only [go_sem, Int.reduceLT, Int.reduceLE, Int.reduceEq, Int.reduceToNat, hc, (get_app hat.get), hat.live, hel, segL24, rowL_rep, cel0, htl, hwz, hl2, hn1, hn2, hij, hd1, hd2, hd3, hd4, hnt, hx]) ?_)) | ((with_reducible refine isMC ?_); first | (refine mcall_ret (offsetU ho hpx hpy) (by simp only [go_sem, Int.reduceLT, Int.reduceLE, Int.reduceEq, Int.reduceToNat, hc, (get_app hat.get), hat.live, hel, segL24, rowL_rep, cel0, htl, hwz, hl2, hn1, hn2, hij, hd1, hd2, hd3, hd4, hnt, hx]) (by simp only [go_sem, Int.reduceLT, Int.reduceLE, Int.reduceEq, Int.reduceToNat, hc, (get_app hat.get), hat.live, hel, segL24, rowL_rep, cel0, htl, hwz, hl2, hn1, hn2, hij, hd1, hd2, hd3, hd4, hnt, hx]) ?_) | (refine mcall_ret (celMovedAny hf.1 hf.2 (by omega)) (by simp only [go_sem, Int.reduceLT, Int.reduceLE, Int.reduceEq, Int.reduceToNat, hc, (get_app hat.get), hat.live, hel, segL24, rowL_rep, cel0, htl, hwz, hl2, hn1, hn2, hij, hd1, hd2, hd3, hd4, hnt, hx]) (by simp only [go_sem, Int.reduceLT, Int.reduceLE, Int.reduceEq, Int.reduceToNat, hc, (get_app hat.get), hat.live, hel, segL24, rowL_rep, cel0, htl, hwz, hl2, hn1, hn2, hij, hd1, hd2, hd3, hd4, hnt, hx]) ?_) | (refine mcall_ret (less) (by simp only [go_sem, Int.reduceLT, Int.reduceLE, Int.reduceEq, Int.reduceToNat, hc, (get_app hat.get), hat.live, hel, segL24, rowL_rep, cel0, htl, hwz, hl2, hn1, hn2, hij, hd1, hd2, hd3, hd4, hnt, hx]) (by simp only [go_sem, Int.reduceLT, Int.reduceLE, Int.reduceEq, Int.reduceToNat, hc, (get_app hat.get), hat.live, hel, segL24, rowL_rep, cel0, htl, hwz, hl2, hn1, hn2, hij, hd1, hd2, hd3, hd4, hnt, hx]) ?_) | (refine mcall_ret (join) (by simp only [go_sem, Int.reduceLT, Int.reduceLE, Int.reduceEq, Int.reduceToNat, hc, (get_app hat.get), hat.live, hel, segL24, rowL_rep, cel0, htl, hwz, hl2, hn1, hn2, hij, hd1, hd2, hd3, hd4, hnt, hx]) (by simp only [go_sem, Int.reduceLT, Int.reduceLE, Int.reduceEq, Int.reduceToNat, hc, (get_app hat.get), hat.live, hel, segL24, rowL_rep, cel0, htl, hwz, hl2, hn1, hn2, hij, hd1, hd2, hd3, hd4, hnt, hx]) ?_)) | ((with_reducible refine isWKr (id := 5) ?_); refine WK_drawAt 5 [[],[0],[],[],[],[2,3,4],[2,3,4,5],[2,3,4,5],[0,1,2,3,4,5,6,7],[0,1,2,3,4,5,6,7,8],[],[0,1,2,3,4,5,6,7,8,9,10]] (by kernel_rfl) ?_) | ((with_reducible refine And.intro ?_ ?_); first | (with_reducible rfl) | assumption | (simp only [go_sem]; done)))
    trace_state
    refine EK_again (n + 1) ?_ (by omega) (by omega)
    rw [e2, e3, flat_snoc]
    unfold mvCov
    exact Weak.keepN rfl (by simp [go_sem]) (by simp [hx]) (by simp [go_sem, hil, seen_len, (flat_rowL .u16 12).lts] <;> omega) (hw.app (by simp [go_sem, hil, seen_len, (flat_rowL .u16 12).lts] <;> omega))
  · have : n = l.length := by omega
    subst this
    repeat (first | (simp only [go_sem, Int.reduceLT, Int.reduceLE, Int.reduceEq, Int.reduceToNat, Int.not_lt.2 hc]) | ((with_reducible refine And.intro ?_ ?_); omega) | ((with_reducible refine isWKr (id := 5) ?_); refine WK_drawAt 5 [[],[0],[],[],[],[2,3,4],[2,3,4,5],[2,3,4,5],[0,1,2,3,4,5,6,7],[0,1,2,3,4,5,6,7,8],[],[0,1,2,3,4,5,6,7,8,9,10]] (by kernel_rfl) ?_) | ((with_reducible refine And.intro ?_ ?_); first | (with_reducible rfl) | assumption | (simp only [go_sem]; done)))
    trace_state
    refine ret_one hq hw _ (.inl rfl) 0 rfl (of_eq_true ((flat_rowL .u16 12).lts _ _)) (.s H.length 0 l.length (.u 0)) (by simp [go_sem]) ?_
    simp [go_sem, conc, upσ, Cap.val]
theorem l05Seen {H : List Blk} {v : V} {l : List (Nat → Int)} {x y : Int} (h : Rd H v encL l) (hm : l.length ≤ 1000000) (hly : ∀ a ∈ l, LyW a) (hok : ∀ a ∈ l, okL a = true) (hpx : -100 ≤ x ∧ x ≤ 100) (hpy : -100 ≤ y ∧ y ≤ 100) :
    Cal Try.prog 81 [v, .v (.int .i64 x), .v (.int .i64 y)] H fun u H' => u = .s H.length 0 l.length (.u 0) ∧ H' = H ++ [⟨(seen_ l x y l.length).flatMap (rowL .u16 12), 40, .own 12⟩] := by
  have hsol := h.solid
  have hL := h.lenV (P := Try.prog) slTy25
  refine cal_fn 41 mixed Try.func81 Try.ntmps81 Try.results81 rfl rfl rfl fun hw cx hx hq => ?_
  repeat (first | (simp only [go_sem, Int.reduceLT, Int.reduceLE, Int.reduceEq, Int.reduceToNat, hsol, hL, rowL_rep, cel0]) | ((with_reducible refine And.intro ?_ ?_); omega) | ((with_reducible refine And.intro ?_ ?_); first | (with_reducible rfl) | assumption | (simp only [go_sem]; done)))
  refine WK_for (fun n : Nat => ⟨[v, .v (.int .i64 x), .v (.int .i64 y), .any, .any, .any, .any, .s H.length 0 n (.u 0), .p (H.length + 1) 0, .v (.int .i64 n)] ++ junk 34, H ++ [⟨(seen_ l x y n).flatMap (rowL .u16 12), 40, .own 12⟩, ⟨rowL .u16 12 (covN l x y n), 40, .fix⟩]⟩) (fun n => n ≤ l.length) (fun n => l.length - n) 0 (Weak.slots ?_) ?_ fun n hn => ?_
  · simp [go_sem, covN, seen_]
  · simp
  rcases Int.lt_or_le (n : Int) l.length with hc | hc
  · have hj : n < l.length := by omega
    obtain ⟨i, off, c, bl, rfl, hat⟩ := h.row (by omega)
    have hil := hat.lt
    have hatj := hat.el encL_len hj
    have hmem := List.getElem_mem hj
    have ho := hok _ hmem
    have hf := okL_f12 ho (hly _ hmem)
    have hr := off_range ho hpx hpy
    have e2 : covN l x y (n + 1) = joinF (covN l x y n) (mvCov l[n] x y) := by rw [covN, ly_at hj]
    have e3 : seen_ l x y (n + 1) = seen_ l x y n ++ [lessF (mvCov l[n] x y) (covN l x y n)] := by rw [seen_succ, seeF, ly_at hj]
    generalize l[n] = a at hatj ho hf hr e2 e3
    have hcel : At H i (off + n * 27) (rowL .u16 12 (a) ++ rowL .u16 12 (covL a)) bl := (encL_at hatj).1
    have hcov := hcel.right
    rw [rowL_length] at hcov
    have hlen := hcel.len (by simp [rowL_length])
    simp only [List.length_append, rowL_length] at hlen
    have hl2 : ((seen_ l x y n).flatMap (rowL .u16 12)).length = n * 12 := by rw [flat_len _ 12 (fun _ => rowL_length ..), seen_len]
    have hn1 : norefH H.length H := norefH_wf hw (Nat.le_refl _)
    have hn2 : norefs H.length ((seen_ l x y n).flatMap (rowL .u16 12)) = true := (flat_rowL .u16 12).norefs _ _
    have hij : (i = H.length) = False := eq_false (by omega)
    have hd1 : (H.length + 1 = H.length) = False := eq_false (by omega)
    have hd2 : (H.length + 2 = H.length) = False := eq_false (by omega)
    have hd3 : (H.length + 3 = H.length) = False := eq_false (by omega)
    have hd4 : (H.length + 4 = H.length) = False := eq_false (by omega)
    have hnt : ∀ m, norefs m (tailL a) = true := fun _ => rfl
    have e1 := moved_eq hf.2 (offE a x) (offS a y) .u16
    repeat (first | (simp only [go_sem, Int.reduceLT, Int.reduceLE, Int.reduceEq, Int.reduceToNat, hc, (get_app hat.get), hat.live, rowL_rep, cel0, e1, hl2, hn1, hn2, hij, hd1, hd2, hd3, hd4, hnt, hx]) | ((with_reducible refine And.intro ?_ ?_); omega) | ((with_reducible refine isSK ?_); first | (refine call_ret (l05Offset hatj.app ho hpx hpy) (by simp only [go_sem, Int.reduceLT, Int.reduceLE, Int.reduceEq, Int.reduceToNat, hc, (get_app hat.get), hat.live, rowL_rep, cel0, e1, hl2, hn1, hn2, hij, hd1, hd2, hd3, hd4, hnt, hx]) ?_) | (refine call_ret (l01Moved hcov.app hf.2.r16 (by omega) (by omega)) (by simp only [go_sem, Int.reduceLT, Int.reduceLE, Int.reduceEq, Int.reduceToNat, hc, (get_app hat.get), hat.live, rowL_rep, cel0, e1, hl2, hn1, hn2, hij, hd1, hd2, hd3, hd4, hnt, hx]) ?_) | (refine call_ret (l01Less (by first | exact At.mk0 rfl | exact At.mk' 1 rfl rfl | exact At.mk' 2 rfl rfl | exact At.mk' 3 rfl rfl | exact At.mk' 4 rfl rfl | exact At.mk' 5 rfl rfl | exact At.mk' 6 rfl rfl | exact At.mk' 7 rfl rfl | exact At.mk' 8 rfl rfl | exact At.mk' 9 rfl rfl | exact At.mk' 10 rfl rfl | exact At.mk' 11 rfl rfl | exact At.mk' 12 rfl rfl | exact At.mk' 13 rfl rfl | exact At.mk' 14 rfl rfl | exact At.mk' 15 rfl rfl) (by first | exact At.mk0 rfl | exact At.mk' 1 rfl rfl | exact At.mk' 2 rfl rfl | exact At.mk' 3 rfl rfl | exact At.mk' 4 rfl rfl | exact At.mk' 5 rfl rfl | exact At.mk' 6 rfl rfl | exact At.mk' 7 rfl rfl | exact At.mk' 8 rfl rfl | exact At.mk' 9 rfl rfl | exact At.mk' 10 rfl rfl | exact At.mk' 11 rfl rfl | exact At.mk' 12 rfl rfl | exact At.mk' 13 rfl rfl | exact At.mk' 14 rfl rfl | exact At.mk' 15 rfl rfl)) (by simp only [go_sem, Int.reduceLT, Int.reduceLE, Int.reduceEq, Int.reduceToNat, hc, (get_app hat.get), hat.live, rowL_rep, cel0, e1, hl2, hn1, hn2, hij, hd1, hd2, hd3, hd4, hnt, hx]) ?_) | (refine call_ret (l01Join (by first | exact At.mk0 rfl | exact At.mk' 1 rfl rfl | exact At.mk' 2 rfl rfl | exact At.mk' 3 rfl rfl | exact At.mk' 4 rfl rfl | exact At.mk' 5 rfl rfl | exact At.mk' 6 rfl rfl | exact At.mk' 7 rfl rfl | exact At.mk' 8 rfl rfl | exact At.mk' 9 rfl rfl | exact At.mk' 10 rfl rfl | exact At.mk' 11 rfl rfl | exact At.mk' 12 rfl rfl | exact At.mk' 13 rfl rfl | exact At.mk' 14 rfl rfl | exact At.mk' 15 rfl rfl) (by first | exact At.mk0 rfl | exact At.mk' 1 rfl rfl | exact At.mk' 2 rfl rfl | exact At.mk' 3 rfl rfl | exact At.mk' 4 rfl rfl | exact At.mk' 5 rfl rfl | exact At.mk' 6 rfl rfl | exact At.mk' 7 rfl rfl | exact At.mk' 8 rfl rfl | exact At.mk' 9 rfl rfl | exact At.mk' 10 rfl rfl | exact At.mk' 11 rfl rfl | exact At.mk' 12 rfl rfl | exact At.mk' 13 rfl rfl | exact At.mk' 14 rfl rfl | exact At.mk' 15 rfl rfl)) (by simp only [go_sem, Int.reduceLT, Int.reduceLE, Int.reduceEq, Int.reduceToNat, hc, (get_app hat.get), hat.live, rowL_rep, cel0, e1, hl2, hn1, hn2, hij, hd1, hd2, hd3, hd4, hnt, hx]) ?_)) | ((with_reducible refine isMC ?_); first | (refine mcall_ret (l05Offset hatj.app ho hpx hpy) (by simp only [go_sem, Int.reduceLT, Int.reduceLE, Int.reduceEq, Int.reduceToNat, hc, (get_app hat.get), hat.live, rowL_rep, cel0, e1, hl2, hn1, hn2, hij, hd1, hd2, hd3, hd4, hnt, hx]) (by simp only [go_sem, Int.reduceLT, Int.reduceLE, Int.reduceEq, Int.reduceToNat, hc, (get_app hat.get), hat.live, rowL_rep, cel0, e1, hl2, hn1, hn2, hij, hd1, hd2, hd3, hd4, hnt, hx]) ?_) | (refine mcall_ret (l01Moved hcov.app hf.2.r16 (by omega) (by omega)) (by simp only [go_sem, Int.reduceLT, Int.reduceLE, Int.reduceEq, Int.reduceToNat, hc, (get_app hat.get), hat.live, rowL_rep, cel0, e1, hl2, hn1, hn2, hij, hd1, hd2, hd3, hd4, hnt, hx]) (by simp only [go_sem, Int.reduceLT, Int.reduceLE, Int.reduceEq, Int.reduceToNat, hc, (get_app hat.get), hat.live, rowL_rep, cel0, e1, hl2, hn1, hn2, hij, hd1, hd2, hd3, hd4, hnt, hx]) ?_) | (refine mcall_ret (l01Less (by first | exact At.mk0 rfl | exact At.mk' 1 rfl rfl | exact At.mk' 2 rfl rfl | exact At.mk' 3 rfl rfl | exact At.mk' 4 rfl rfl | exact At.mk' 5 rfl rfl | exact At.mk' 6 rfl rfl | exact At.mk' 7 rfl rfl | exact At.mk' 8 rfl rfl | exact At.mk' 9 rfl rfl | exact At.mk' 10 rfl rfl | exact At.mk' 11 rfl rfl | exact At.mk' 12 rfl rfl | exact At.mk' 13 rfl rfl | exact At.mk' 14 rfl rfl | exact At.mk' 15 rfl rfl) (by first | exact At.mk0 rfl | exact At.mk' 1 rfl rfl | exact At.mk' 2 rfl rfl | exact At.mk' 3 rfl rfl | exact At.mk' 4 rfl rfl | exact At.mk' 5 rfl rfl | exact At.mk' 6 rfl rfl | exact At.mk' 7 rfl rfl | exact At.mk' 8 rfl rfl | exact At.mk' 9 rfl rfl | exact At.mk' 10 rfl rfl | exact At.mk' 11 rfl rfl | exact At.mk' 12 rfl rfl | exact At.mk' 13 rfl rfl | exact At.mk' 14 rfl rfl | exact At.mk' 15 rfl rfl)) (by simp only [go_sem, Int.reduceLT, Int.reduceLE, Int.reduceEq, Int.reduceToNat, hc, (get_app hat.get), hat.live, rowL_rep, cel0, e1, hl2, hn1, hn2, hij, hd1, hd2, hd3, hd4, hnt, hx]) (by simp only [go_sem, Int.reduceLT, Int.reduceLE, Int.reduceEq, Int.reduceToNat, hc, (get_app hat.get), hat.live, rowL_rep, cel0, e1, hl2, hn1, hn2, hij, hd1, hd2, hd3, hd4, hnt, hx]) ?_) | (refine mcall_ret (l01Join (by first | exact At.mk0 rfl | exact At.mk' 1 rfl rfl | exact At.mk' 2 rfl rfl | exact At.mk' 3 rfl rfl | exact At.mk' 4 rfl rfl | exact At.mk' 5 rfl rfl | exact At.mk' 6 rfl rfl | exact At.mk' 7 rfl rfl | exact At.mk' 8 rfl rfl | exact At.mk' 9 rfl rfl | exact At.mk' 10 rfl rfl | exact At.mk' 11 rfl rfl | exact At.mk' 12 rfl rfl | exact At.mk' 13 rfl rfl | exact At.mk' 14 rfl rfl | exact At.mk' 15 rfl rfl) (by first | exact At.mk0 rfl | exact At.mk' 1 rfl rfl | exact At.mk' 2 rfl rfl | exact At.mk' 3 rfl rfl | exact At.mk' 4 rfl rfl | exact At.mk' 5 rfl rfl | exact At.mk' 6 rfl rfl | exact At.mk' 7 rfl rfl | exact At.mk' 8 rfl rfl | exact At.mk' 9 rfl rfl | exact At.mk' 10 rfl rfl | exact At.mk' 11 rfl rfl | exact At.mk' 12 rfl rfl | exact At.mk' 13 rfl rfl | exact At.mk' 14 rfl rfl | exact At.mk' 15 rfl rfl)) (by simp only [go_sem, Int.reduceLT, Int.reduceLE, Int.reduceEq, Int.reduceToNat, hc, (get_app hat.get), hat.live, rowL_rep, cel0, e1, hl2, hn1, hn2, hij, hd1, hd2, hd3, hd4, hnt, hx]) (by simp only [go_sem, Int.reduceLT, Int.reduceLE, Int.reduceEq, Int.reduceToNat, hc, (get_app hat.get), hat.live, rowL_rep, cel0, e1, hl2, hn1, hn2, hij, hd1, hd2, hd3, hd4, hnt, hx]) ?_)) | ((with_reducible refine And.intro ?_ ?_); first | (with_reducible rfl) | assumption | (simp only [go_sem]; done)))
    trace_state
    refine EK_again (n + 1) ?_ (by omega) (by omega)
    rw [e2, e3, flat_snoc]
    unfold mvCov
    exact Weak.keepN rfl (by simp [go_sem]) (by simp [hx]) (by simp [go_sem, hil, seen_len, (flat_rowL .u16 12).lts] <;> omega) (hw.app (by simp [go_sem, hil, seen_len, (flat_rowL .u16 12).lts] <;> omega))
  · have : n = l.length := by omega
    subst this
    repeat (first | (simp only [go_sem, Int.reduceLT, Int.reduceLE, Int.reduceEq, Int.reduceToNat, hL, Int.not_lt.2 hc]) | ((with_reducible refine And.intro ?_ ?_); omega) | ((with_reducible refine And.intro ?_ ?_); first | (with_reducible rfl) | assumption | (simp only [go_sem]; done)))
    trace_state
    refine ret_one hq hw _ (.inl rfl) 0 rfl (of_eq_true ((flat_rowL .u16 12).lts _ _)) (.s H.length 0 l.length (.u 0)) (by simp [go_sem]) ?_
    simp [go_sem, conc, upσ, Cap.val]
end Go.Proofs.Ytheeehjgmifclaa

