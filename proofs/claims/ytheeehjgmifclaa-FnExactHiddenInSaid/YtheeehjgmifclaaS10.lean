/- Contracts of functions of the translated program, by the walk. -/
import Derived.Test.YtheeehjgmifclaaS8
import Derived.Test.YtheeehjgmifclaaS9
import Derived.Test.YtheeehjgmifclaaB5
import Derived.Test.YtheeehjgmifclaaC1
set_option linter.unusedVariables false
set_option linter.unusedSimpArgs false
set_option maxRecDepth 8000
set_option maxHeartbeats 4000000
namespace Go.Proofs.Ytheeehjgmifclaa
open Go Go.Sx
open Go.RowKit

theorem cam_all {l : List (Nat → Int)} {x y : Int} (h : camC l x y = 0) : ∀ a ∈ l, okL a = true := List.all_eq_true.1 (okS_iff.1 (camC_ok h).1).2
theorem lessF_12 {f g : Nat → Int} (h : F12 f) : F12 (lessF f g) := fun j hj => by
  have a := h j hj
  unfold lessF
  have e : bits .andNot .u16 (f j) (g j) = IntKind.u16.wrap ((BitVec.ofInt 16 (f j) &&& ~~~(BitVec.ofInt 16 (g j))).toNat : Int) := rfl
  have e2 : (BitVec.ofInt 16 (f j)).toNat = (f j).toNat := by
    obtain ⟨A, hA⟩ := Int.eq_ofNat_of_zero_le a.1
    rw [hA, ofInt_u16 A (by omega)]; rfl
  have := Nat.and_le_left (n := (BitVec.ofInt 16 (f j)).toNat) (m := (~~~(BitVec.ofInt 16 (g j))).toNat)
  rw [e, BitVec.toNat_and, IntKind.wrap_u16]
  omega
theorem see_12 {l : List (Nat → Int)} {x y : Int} (hly : ∀ a ∈ l, LyW a) (hok : ∀ a ∈ l, okL a = true) {k : Nat} (hk : k < l.length) : F12 (seeF l x y k) := by
  unfold seeF
  refine lessF_12 (movI_f12 ?_ _ _)
  rw [ly_at hk]
  exact (okL_f12 (hok _ (List.getElem_mem hk)) (hly _ (List.getElem_mem hk))).2
theorem seen_at {l : List (Nat → Int)} {x y : Int} {n N : Nat} (h : n < N) : (seen_ l x y N)[n]'(by rw [seen_len]; exact h) = seeF l x y n := by simp [seen_]
theorem seen_seg {l : List (Nat → Int)} {x y : Int} {n N : Nat} (h : n < N) : seg ((seen_ l x y N).flatMap (rowL .u16 12)) (n * 12) 12 = rowL .u16 12 (seeF l x y n) := by
  rw [flat_seg (rowL .u16 12) 12 (fun _ => rowL_length ..) _ n (by rw [seen_len]; exact h), seen_at h]
theorem seen_flen (l : List (Nat → Int)) (x y : Int) (n : Nat) : ((seen_ l x y n).flatMap (rowL .u16 12)).length = n * 12 := by rw [flat_len _ 12 (fun _ => rowL_length ..), seen_len]
def hdT (l : List (Nat → Int)) (x y : Int) (n : Nat) : List Int := ((List.range n).filter fun k => (dotsF (seeF l x y k)).length == 0).map fun k : Nat => (k : Int)
theorem hdT_len (l : List (Nat → Int)) (x y : Int) (n : Nat) : (hdT l x y n).length ≤ n := by
  unfold hdT; rw [List.length_map]
  exact Nat.le_trans (List.length_filter_le _ _) (by simp)
theorem hdT_succ (l : List (Nat → Int)) (x y : Int) (n : Nat) : hdT l x y (n + 1) = hdT l x y n ++ (if (dotsF (seeF l x y n)).length = 0 then [(n : Int)] else []) := by
  unfold hdT
  rw [List.range_succ, List.filter_append, List.map_append]
  congr 1
  by_cases e : (dotsF (seeF l x y n)).length = 0
  · rw [if_pos e]; simp [e]
  · rw [if_neg e]; simp [e]
theorem specHiddenIn_err {H : List Blk} {v : V} {l : List (Nat → Int)} {x y : Int} (h : Rd H v encL l) (hm : l.length ≤ 1000000) (hly : ∀ a ∈ l, LyW a) (e1 : camC l x y ≠ 0) :
    Cal Try.prog 43 [v, .v (.int .i64 x), .v (.int .i64 y)] H fun u H' => u = .t [.s H.length 0 0 (.u 0), .v (.int .i64 (camC l x y))] ∧ H' = H ++ [⟨[], 2, .own 1⟩] := by
  have hsol := h.solid
  refine cal_fn 38 mixed Try.func43 Try.ntmps43 Try.results43 rfl rfl rfl fun hw cx hx hq => ?_
  repeat (first | (simp only [go_sem, Int.reduceLT, Int.reduceLE, Int.reduceEq, Int.reduceToNat, hsol, e1]) | ((with_reducible refine And.intro ?_ ?_); omega) | ((with_reducible refine isSK ?_); first | (refine call_ret (l05Camera h.app (by omega) hly) (by simp only [go_sem, Int.reduceLT, Int.reduceLE, Int.reduceEq, Int.reduceToNat, hsol, e1]) ?_) | (refine call_ret (l05Camera h (by omega) hly) (by simp only [go_sem, Int.reduceLT, Int.reduceLE, Int.reduceEq, Int.reduceToNat, hsol, e1]) ?_)) | ((with_reducible refine isMC ?_); first | (refine mcall_ret (l05Camera h.app (by omega) hly) (by simp only [go_sem, Int.reduceLT, Int.reduceLE, Int.reduceEq, Int.reduceToNat, hsol, e1]) (by simp only [go_sem, Int.reduceLT, Int.reduceLE, Int.reduceEq, Int.reduceToNat, hsol, e1]) ?_) | (refine mcall_ret (l05Camera h (by omega) hly) (by simp only [go_sem, Int.reduceLT, Int.reduceLE, Int.reduceEq, Int.reduceToNat, hsol, e1]) (by simp only [go_sem, Int.reduceLT, Int.reduceLE, Int.reduceEq, Int.reduceToNat, hsol, e1]) ?_)) | ((with_reducible refine And.intro ?_ ?_); first | (with_reducible rfl) | assumption | (simp only [go_sem]; done)))
  refine ret_at hq _ (.inl rfl) (by simp) ?_
  simp [go_sem]

theorem implHiddenIn_err {H : List Blk} {v : V} {l : List (Nat → Int)} {x y : Int} (h : Rd H v encL l) (hm : l.length ≤ 1000000) (hly : ∀ a ∈ l, LyW a) (e1 : camC l x y ≠ 0) :
    Cal Try.prog 44 [v, .v (.int .i64 x), .v (.int .i64 y)] H fun u H' => u = .t [.v (.slice none 0 0), .v (.int .i64 (camC l x y))] ∧ H' = H := by
  have hsol := h.solid
  refine cal_fn 36 mixed Try.func44 Try.ntmps44 Try.results44 rfl rfl rfl fun hw cx hx hq => ?_
  repeat (first | (simp only [go_sem, Int.reduceLT, Int.reduceLE, Int.reduceEq, Int.reduceToNat, hsol, e1]) | ((with_reducible refine And.intro ?_ ?_); omega) | ((with_reducible refine isSK ?_); first | (refine call_ret (checkCamera h.app (by omega) hly) (by simp only [go_sem, Int.reduceLT, Int.reduceLE, Int.reduceEq, Int.reduceToNat, hsol, e1]) ?_) | (refine call_ret (checkCamera h (by omega) hly) (by simp only [go_sem, Int.reduceLT, Int.reduceLE, Int.reduceEq, Int.reduceToNat, hsol, e1]) ?_)) | ((with_reducible refine isMC ?_); first | (refine mcall_ret (checkCamera h.app (by omega) hly) (by simp only [go_sem, Int.reduceLT, Int.reduceLE, Int.reduceEq, Int.reduceToNat, hsol, e1]) (by simp only [go_sem, Int.reduceLT, Int.reduceLE, Int.reduceEq, Int.reduceToNat, hsol, e1]) ?_) | (refine mcall_ret (checkCamera h (by omega) hly) (by simp only [go_sem, Int.reduceLT, Int.reduceLE, Int.reduceEq, Int.reduceToNat, hsol, e1]) (by simp only [go_sem, Int.reduceLT, Int.reduceLE, Int.reduceEq, Int.reduceToNat, hsol, e1]) ?_)) | ((with_reducible refine And.intro ?_ ?_); first | (with_reducible rfl) | assumption | (simp only [go_sem]; done)))
  refine ret_same hq _ (.inl rfl) ?_
  simp [go_sem]

theorem specHiddenIn_ok {H : List Blk} {v : V} {l : List (Nat → Int)} {x y : Int} (h : Rd H v encL l) (hm : l.length ≤ 1000000) (hly : ∀ a ∈ l, LyW a) (e1 : camC l x y = 0) :
    Cal Try.prog 43 [v, .v (.int .i64 x), .v (.int .i64 y)] H fun u H' => u = .t [.s H.length 0 (hdT l x y l.length).length (.u 0), .v (.int .i64 0)] ∧ H' = H ++ [⟨(hdT l x y l.length).flatMap i64C, 2, .own 1⟩] := by
  have hsol := h.solid
  have hcam := camC_ok e1
  have hok := cam_all e1
  refine cal_fn 38 mixed Try.func43 Try.ntmps43 Try.results43 rfl rfl rfl fun hw cx hx hq => ?_
  repeat (first | (simp only [go_sem, Int.reduceLT, Int.reduceLE, Int.reduceEq, Int.reduceToNat, hsol, e1]) | ((with_reducible refine And.intro ?_ ?_); omega) | ((with_reducible refine isSK ?_); first | (refine call_ret (l05Camera h (by omega) hly) (by simp only [go_sem, Int.reduceLT, Int.reduceLE, Int.reduceEq, Int.reduceToNat, hsol, e1]) ?_) | (refine call_ret (l05Seen h.app hm hly hok hcam.2.1 hcam.2.2) (by simp only [go_sem, Int.reduceLT, Int.reduceLE, Int.reduceEq, Int.reduceToNat, hsol, e1]) ?_)) | ((with_reducible refine isMC ?_); first | (refine mcall_ret (l05Camera h (by omega) hly) (by simp only [go_sem, Int.reduceLT, Int.reduceLE, Int.reduceEq, Int.reduceToNat, hsol, e1]) (by simp only [go_sem, Int.reduceLT, Int.reduceLE, Int.reduceEq, Int.reduceToNat, hsol, e1]) ?_) | (refine mcall_ret (l05Seen h.app hm hly hok hcam.2.1 hcam.2.2) (by simp only [go_sem, Int.reduceLT, Int.reduceLE, Int.reduceEq, Int.reduceToNat, hsol, e1]) (by simp only [go_sem, Int.reduceLT, Int.reduceLE, Int.reduceEq, Int.reduceToNat, hsol, e1]) ?_)) | ((with_reducible refine And.intro ?_ ?_); first | (with_reducible rfl) | assumption | (simp only [go_sem]; done)))
  refine WK_for (fun n : Nat => ⟨[.any, .any, .any, .any, .any, .any, .any, .any, .any, .s H.length 0 (hdT l x y n).length (.u 0), .s (H.length + 1) 0 l.length (.u 0), .v (.int .i64 n)] ++ junk 29, H ++ [⟨(hdT l x y n).flatMap i64C, 2, .own 1⟩, ⟨(seen_ l x y l.length).flatMap (rowL .u16 12), 40, .own 12⟩]⟩) (fun n => n ≤ l.length) (fun n => l.length - n) 0 (Weak.slots ?_) ?_ fun n hn => ?_
  · simp [go_sem, hdT]
  · simp
  rcases Int.lt_or_le (n : Int) l.length with hc | hc
  · have hj : n < l.length := by omega
    have hf := see_12 (x := x) (y := y) hly hok hj
    have hatj : At (H ++ [⟨(hdT l x y n).flatMap i64C, 2, .own 1⟩, ⟨(seen_ l x y l.length).flatMap (rowL .u16 12), 40, .own 12⟩]) (H.length + 1) (n * 12) (rowL .u16 12 (seeF l x y n)) ⟨(seen_ l x y l.length).flatMap (rowL .u16 12), 40, .own 12⟩ := ⟨(Go.Sx.get_at _ _ 1).trans rfl, rfl, by rw [rowL_length]; exact seen_seg hj⟩
    have hsg := seen_seg (l := l) (x := x) (y := y) hj
    have hfl := seen_flen l x y l.length
    have hl2 : ((hdT l x y n).flatMap i64C).length = (hdT l x y n).length := by rw [flat_i64.flen, Nat.mul_one]
    have hle : (hdT l x y n).length ≤ n := hdT_len ..
    have hn1 : norefH H.length H := norefH_wf hw (Nat.le_refl _)
    have hn2 : norefs H.length ((hdT l x y n).flatMap i64C) = true := flat_i64.norefs _ _
    have hn3 : norefs H.length ((seen_ l x y l.length).flatMap (rowL .u16 12)) = true := (flat_rowL .u16 12).norefs _ _
    have hd1 : (H.length + 1 = H.length) = False := eq_false (by omega)
    have hd2 : (H.length + 2 = H.length) = False := eq_false (by omega)
    have hd3 : (H.length + 3 = H.length) = False := eq_false (by omega)
    have hd4 : (H.length + 4 = H.length) = False := eq_false (by omega)
    have e3 := hdT_succ l x y n
    have hlp : ((dotsF (seeF l x y n)).length : Int) = 0 ↔ (dotsF (seeF l x y n)).length = 0 := by omega
    by_cases e4 : (dotsF (seeF l x y n)).length = 0
    · rw [if_pos e4] at e3
      have e5 : ((dotsF (seeF l x y n)).length : Int) = 0 := by omega
      repeat (first | (simp only [go_sem, Int.reduceLT, Int.reduceLE, Int.reduceEq, Int.reduceToNat, rowL_rep, hc, hsg, hfl, hl2, hn1, hn2, hn3, hd1, hd2, hd3, hd4, hx, e5]) | ((with_reducible refine And.intro ?_ ?_); omega) | ((with_reducible refine isSK ?_); first | (refine call_ret (l01Count hatj hf.r16) (by simp only [go_sem, Int.reduceLT, Int.reduceLE, Int.reduceEq, Int.reduceToNat, rowL_rep, hc, hsg, hfl, hl2, hn1, hn2, hn3, hd1, hd2, hd3, hd4, hx, e5]) ?_)) | ((with_reducible refine isMC ?_); first | (refine mcall_ret (l01Count hatj hf.r16) (by simp only [go_sem, Int.reduceLT, Int.reduceLE, Int.reduceEq, Int.reduceToNat, rowL_rep, hc, hsg, hfl, hl2, hn1, hn2, hn3, hd1, hd2, hd3, hd4, hx, e5]) (by simp only [go_sem, Int.reduceLT, Int.reduceLE, Int.reduceEq, Int.reduceToNat, rowL_rep, hc, hsg, hfl, hl2, hn1, hn2, hn3, hd1, hd2, hd3, hd4, hx, e5]) ?_)) | ((with_reducible refine And.intro ?_ ?_); first | (with_reducible rfl) | assumption | (simp only [go_sem]; done)))
      refine EK_again (n + 1) ?_ (by omega) (by omega)
      rw [e3, flat_snoc]
      exact Weak.keepN rfl (by simp [go_sem]) (by simp [hx]) (by simp [go_sem, flat_i64.lts, (flat_rowL .u16 12).lts, i64C] <;> omega) (hw.app (by simp [go_sem, flat_i64.lts, (flat_rowL .u16 12).lts, i64C] <;> omega))
    · rw [if_neg e4, List.append_nil] at e3
      have e5 : (((dotsF (seeF l x y n)).length : Int) = 0) = False := eq_false (by omega)
      repeat (first | (simp only [go_sem, Int.reduceLT, Int.reduceLE, Int.reduceEq, Int.reduceToNat, rowL_rep, hc, hsg, hfl, hl2, hn1, hn2, hn3, hd1, hd2, hd3, hd4, hx, e5]) | ((with_reducible refine And.intro ?_ ?_); omega) | ((with_reducible refine isSK ?_); first | (refine call_ret (l01Count hatj hf.r16) (by simp only [go_sem, Int.reduceLT, Int.reduceLE, Int.reduceEq, Int.reduceToNat, rowL_rep, hc, hsg, hfl, hl2, hn1, hn2, hn3, hd1, hd2, hd3, hd4, hx, e5]) ?_)) | ((with_reducible refine isMC ?_); first | (refine mcall_ret (l01Count hatj hf.r16) (by simp only [go_sem, Int.reduceLT, Int.reduceLE, Int.reduceEq, Int.reduceToNat, rowL_rep, hc, hsg, hfl, hl2, hn1, hn2, hn3, hd1, hd2, hd3, hd4, hx, e5]) (by simp only [go_sem, Int.reduceLT, Int.reduceLE, Int.reduceEq, Int.reduceToNat, rowL_rep, hc, hsg, hfl, hl2, hn1, hn2, hn3, hd1, hd2, hd3, hd4, hx, e5]) ?_)) | ((with_reducible refine And.intro ?_ ?_); first | (with_reducible rfl) | assumption | (simp only [go_sem]; done)))
      refine EK_again (n + 1) ?_ (by omega) (by omega)
      rw [e3]
      exact Weak.keepN rfl (by simp [go_sem]) (by simp [hx]) (by simp [go_sem, flat_i64.lts, (flat_rowL .u16 12).lts, i64C] <;> omega) (hw.app (by simp [go_sem, flat_i64.lts, (flat_rowL .u16 12).lts, i64C] <;> omega))
  · have : n = l.length := by omega
    subst this
    repeat (first | (simp only [go_sem, Int.reduceLT, Int.reduceLE, Int.reduceEq, Int.reduceToNat, Int.not_lt.2 hc]) | ((with_reducible refine And.intro ?_ ?_); omega) | ((with_reducible refine And.intro ?_ ?_); first | (with_reducible rfl) | assumption | (simp only [go_sem]; done)))
    refine ret_one hq hw _ (.inl rfl) 0 rfl (of_eq_true (flat_i64.lts _ _)) (.t [.s H.length 0 (hdT l x y l.length).length (.u 0), .v (.int .i64 0)]) (by simp [go_sem]) ?_
    simp [go_sem, conc, concs, upσ, Cap.val]

theorem implHiddenIn_ok {H : List Blk} {v : V} {l : List (Nat → Int)} {x y : Int} (h : Rd H v encL l) (hm : l.length ≤ 1000000) (hly : ∀ a ∈ l, LyW a) (e1 : camC l x y = 0) :
    Cal Try.prog 44 [v, .v (.int .i64 x), .v (.int .i64 y)] H fun u H' => u = .t [.s H.length 0 (hdT l x y l.length).length (.u 0), .v (.int .i64 0)] ∧ H' = H ++ [⟨(hdT l x y l.length).flatMap i64C, 2, .own 1⟩] := by
  have hsol := h.solid
  have hcam := camC_ok e1
  have hok := cam_all e1
  refine cal_fn 36 mixed Try.func44 Try.ntmps44 Try.results44 rfl rfl rfl fun hw cx hx hq => ?_
  repeat (first | (simp only [go_sem, Int.reduceLT, Int.reduceLE, Int.reduceEq, Int.reduceToNat, hsol, e1]) | ((with_reducible refine And.intro ?_ ?_); omega) | ((with_reducible refine isSK ?_); first | (refine call_ret (checkCamera h (by omega) hly) (by simp only [go_sem, Int.reduceLT, Int.reduceLE, Int.reduceEq, Int.reduceToNat, hsol, e1]) ?_) | (refine call_ret (seen h.app hm hly hok hcam.2.1 hcam.2.2) (by simp only [go_sem, Int.reduceLT, Int.reduceLE, Int.reduceEq, Int.reduceToNat, hsol, e1]) ?_)) | ((with_reducible refine isMC ?_); first | (refine mcall_ret (checkCamera h (by omega) hly) (by simp only [go_sem, Int.reduceLT, Int.reduceLE, Int.reduceEq, Int.reduceToNat, hsol, e1]) (by simp only [go_sem, Int.reduceLT, Int.reduceLE, Int.reduceEq, Int.reduceToNat, hsol, e1]) ?_) | (refine mcall_ret (seen h.app hm hly hok hcam.2.1 hcam.2.2) (by simp only [go_sem, Int.reduceLT, Int.reduceLE, Int.reduceEq, Int.reduceToNat, hsol, e1]) (by simp only [go_sem, Int.reduceLT, Int.reduceLE, Int.reduceEq, Int.reduceToNat, hsol, e1]) ?_)) | ((with_reducible refine And.intro ?_ ?_); first | (with_reducible rfl) | assumption | (simp only [go_sem]; done)))
  refine WK_for (fun n : Nat => ⟨[.any, .any, .any, .any, .any, .any, .any, .any, .any, .s H.length 0 (hdT l x y n).length (.u 0), .any, .any, .any, .any, .any, .any, .any, .any, .any, .any, .any, .any, .any, .s (H.length + 1) 0 l.length (.u 0), .v (.int .i64 l.length), .v (.int .i64 n)] ++ junk 13, H ++ [⟨(hdT l x y n).flatMap i64C, 2, .own 1⟩, ⟨(seen_ l x y l.length).flatMap (rowL .u16 12), 40, .own 12⟩]⟩) (fun n => n ≤ l.length) (fun n => l.length - n) 0 (Weak.slots ?_) ?_ fun n hn => ?_
  · simp [go_sem, hdT]
  · simp
  rcases Int.lt_or_le (n : Int) l.length with hc | hc
  · have hj : n < l.length := by omega
    have hf := see_12 (x := x) (y := y) hly hok hj
    have hatj : At (H ++ [⟨(hdT l x y n).flatMap i64C, 2, .own 1⟩, ⟨(seen_ l x y l.length).flatMap (rowL .u16 12), 40, .own 12⟩]) (H.length + 1) (n * 12) (rowL .u16 12 (seeF l x y n)) ⟨(seen_ l x y l.length).flatMap (rowL .u16 12), 40, .own 12⟩ := ⟨(Go.Sx.get_at _ _ 1).trans rfl, rfl, by rw [rowL_length]; exact seen_seg hj⟩
    have hsg := seen_seg (l := l) (x := x) (y := y) hj
    have hfl := seen_flen l x y l.length
    have hl2 : ((hdT l x y n).flatMap i64C).length = (hdT l x y n).length := by rw [flat_i64.flen, Nat.mul_one]
    have hle : (hdT l x y n).length ≤ n := hdT_len ..
    have hn1 : norefH H.length H := norefH_wf hw (Nat.le_refl _)
    have hn2 : norefs H.length ((hdT l x y n).flatMap i64C) = true := flat_i64.norefs _ _
    have hn3 : norefs H.length ((seen_ l x y l.length).flatMap (rowL .u16 12)) = true := (flat_rowL .u16 12).norefs _ _
    have hd1 : (H.length + 1 = H.length) = False := eq_false (by omega)
    have hd2 : (H.length + 2 = H.length) = False := eq_false (by omega)
    have hd3 : (H.length + 3 = H.length) = False := eq_false (by omega)
    have hd4 : (H.length + 4 = H.length) = False := eq_false (by omega)
    have e3 := hdT_succ l x y n
    have hlp : ((dotsF (seeF l x y n)).length : Int) = 0 ↔ (dotsF (seeF l x y n)).length = 0 := by omega
    by_cases e4 : (dotsF (seeF l x y n)).length = 0
    · rw [if_pos e4] at e3
      have e5 : ((dotsF (seeF l x y n)).length : Int) = 0 := by omega
      repeat (first | (simp only [go_sem, Int.reduceLT, Int.reduceLE, Int.reduceEq, Int.reduceToNat, rowL_rep, hc, hsg, hfl, hl2, hn1, hn2, hn3, hd1, hd2, hd3, hd4, hx, e5]) | ((with_reducible refine And.intro ?_ ?_); omega) | ((with_reducible refine isSK ?_); first | (refine call_ret (count hf) (by simp only [go_sem, Int.reduceLT, Int.reduceLE, Int.reduceEq, Int.reduceToNat, rowL_rep, hc, hsg, hfl, hl2, hn1, hn2, hn3, hd1, hd2, hd3, hd4, hx, e5]) ?_)) | ((with_reducible refine isMC ?_); first | (refine mcall_ret (count hf) (by simp only [go_sem, Int.reduceLT, Int.reduceLE, Int.reduceEq, Int.reduceToNat, rowL_rep, hc, hsg, hfl, hl2, hn1, hn2, hn3, hd1, hd2, hd3, hd4, hx, e5]) (by simp only [go_sem, Int.reduceLT, Int.reduceLE, Int.reduceEq, Int.reduceToNat, rowL_rep, hc, hsg, hfl, hl2, hn1, hn2, hn3, hd1, hd2, hd3, hd4, hx, e5]) ?_)) | ((with_reducible refine And.intro ?_ ?_); first | (with_reducible rfl) | assumption | (simp only [go_sem]; done)))
      refine EK_again (n + 1) ?_ (by omega) (by omega)
      rw [e3, flat_snoc]
      exact Weak.keepN rfl (by simp [go_sem]) (by simp [hx]) (by simp [go_sem, flat_i64.lts, (flat_rowL .u16 12).lts, i64C] <;> omega) (hw.app (by simp [go_sem, flat_i64.lts, (flat_rowL .u16 12).lts, i64C] <;> omega))
    · rw [if_neg e4, List.append_nil] at e3
      have e5 : (((dotsF (seeF l x y n)).length : Int) = 0) = False := eq_false (by omega)
      repeat (first | (simp only [go_sem, Int.reduceLT, Int.reduceLE, Int.reduceEq, Int.reduceToNat, rowL_rep, hc, hsg, hfl, hl2, hn1, hn2, hn3, hd1, hd2, hd3, hd4, hx, e5]) | ((with_reducible refine And.intro ?_ ?_); omega) | ((with_reducible refine isSK ?_); first | (refine call_ret (count hf) (by simp only [go_sem, Int.reduceLT, Int.reduceLE, Int.reduceEq, Int.reduceToNat, rowL_rep, hc, hsg, hfl, hl2, hn1, hn2, hn3, hd1, hd2, hd3, hd4, hx, e5]) ?_)) | ((with_reducible refine isMC ?_); first | (refine mcall_ret (count hf) (by simp only [go_sem, Int.reduceLT, Int.reduceLE, Int.reduceEq, Int.reduceToNat, rowL_rep, hc, hsg, hfl, hl2, hn1, hn2, hn3, hd1, hd2, hd3, hd4, hx, e5]) (by simp only [go_sem, Int.reduceLT, Int.reduceLE, Int.reduceEq, Int.reduceToNat, rowL_rep, hc, hsg, hfl, hl2, hn1, hn2, hn3, hd1, hd2, hd3, hd4, hx, e5]) ?_)) | ((with_reducible refine And.intro ?_ ?_); first | (with_reducible rfl) | assumption | (simp only [go_sem]; done)))
      refine EK_again (n + 1) ?_ (by omega) (by omega)
      rw [e3]
      exact Weak.keepN rfl (by simp [go_sem]) (by simp [hx]) (by simp [go_sem, flat_i64.lts, (flat_rowL .u16 12).lts, i64C] <;> omega) (hw.app (by simp [go_sem, flat_i64.lts, (flat_rowL .u16 12).lts, i64C] <;> omega))
  · have : n = l.length := by omega
    subst this
    repeat (first | (simp only [go_sem, Int.reduceLT, Int.reduceLE, Int.reduceEq, Int.reduceToNat, Int.not_lt.2 hc]) | ((with_reducible refine And.intro ?_ ?_); omega) | ((with_reducible refine And.intro ?_ ?_); first | (with_reducible rfl) | assumption | (simp only [go_sem]; done)))
    refine ret_one hq hw _ (.inl rfl) 0 rfl (of_eq_true (flat_i64.lts _ _)) (.t [.s H.length 0 (hdT l x y l.length).length (.u 0), .v (.int .i64 0)]) (by simp [go_sem]) ?_
    simp [go_sem, conc, concs, upσ, Cap.val]

end Go.Proofs.Ytheeehjgmifclaa

