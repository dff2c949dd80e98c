/- Contracts of functions of the translated program, by the walk. -/
import Derived.Test.YtpginknbmmdmoaaMo1
set_option linter.unusedVariables false
set_option linter.unusedSimpArgs false
set_option maxRecDepth 8000
set_option maxHeartbeats 4000000
namespace Go.Proofs.Ytpginknbmmdmoaa
open Go Go.Sx
open Go.RowKit
def mbL (f g : Nat → Int) (t n : Nat) : List (Nat → Int) := (List.range n).map fun k => morphF f g (morphN f g k t)
@[simp] theorem mbL_len (f g : Nat → Int) (t n : Nat) : (mbL f g t n).length = n := by simp [mbL]
theorem mbL_succ (f g : Nat → Int) (t n : Nat) : mbL f g t (n + 1) = mbL f g t n ++ [morphF f g (morphN f g n t)] := by simp [mbL, List.range_succ]
theorem mbL_at {f g : Nat → Int} {t n k : Nat} (h : k < n) : (mbL f g t n)[k]'(by simp; exact h) = morphF f g (morphN f g k t) := by simp [mbL]
theorem okF_of {f : Nat → Int} (h : F12 f) : okF f = true := (okF_iff f).2 fun j hj => (h j hj).2
theorem implDifferBy {H : List Blk} {f g : Nat → Int} (hf : F12 f) (hg : F12 g) : Cal Try.prog 59 [.a (rowL .u16 12 (f)), .a (rowL .u16 12 (g))] H fun u H' => u = .t [.v (.int .i64 (jumpF f g)), .v (.int .i64 0)] ∧ H' = H := by
  have e' : (okF f && okF g) = true := by rw [okF_of hf, okF_of hg]; rfl
  refine cal_fn 12 mixed Try.func59 Try.ntmps59 Try.results59 rfl rfl rfl fun hw cx hx hq => ?_
  repeat (first | (simp only [go_sem, Int.reduceLT, Int.reduceLE, Int.reduceEq, Int.reduceToNat, e', rowL_rep]) | ((with_reducible refine And.intro ?_ ?_); omega) | ((with_reducible refine isSK ?_); first | (refine call_ret (areFrames2 (by first | exact At.mk0 rfl | exact At.mk' 1 rfl rfl | exact At.mk' 2 rfl rfl | exact At.mk' 3 rfl rfl | exact At.mk' 4 rfl rfl | exact At.mk' 5 rfl rfl | exact At.mk' 6 rfl rfl | exact At.mk' 7 rfl rfl | exact At.mk' 8 rfl rfl | exact At.mk' 9 rfl rfl | exact At.mk' 10 rfl rfl | exact At.mk' 11 rfl rfl | exact At.mk' 12 rfl rfl | exact At.mk' 13 rfl rfl | exact At.mk' 14 rfl rfl | exact At.mk' 15 rfl rfl)) (by simp only [go_sem, Int.reduceLT, Int.reduceLE, Int.reduceEq, Int.reduceToNat, e', rowL_rep]) ?_) | (refine call_ret (jump hf hg) (by simp only [go_sem, Int.reduceLT, Int.reduceLE, Int.reduceEq, Int.reduceToNat, e', rowL_rep]) ?_)) | ((with_reducible refine isMC ?_); first | (refine mcall_ret (areFrames2 (by first | exact At.mk0 rfl | exact At.mk' 1 rfl rfl | exact At.mk' 2 rfl rfl | exact At.mk' 3 rfl rfl | exact At.mk' 4 rfl rfl | exact At.mk' 5 rfl rfl | exact At.mk' 6 rfl rfl | exact At.mk' 7 rfl rfl | exact At.mk' 8 rfl rfl | exact At.mk' 9 rfl rfl | exact At.mk' 10 rfl rfl | exact At.mk' 11 rfl rfl | exact At.mk' 12 rfl rfl | exact At.mk' 13 rfl rfl | exact At.mk' 14 rfl rfl | exact At.mk' 15 rfl rfl)) (by simp only [go_sem, Int.reduceLT, Int.reduceLE, Int.reduceEq, Int.reduceToNat, e', rowL_rep]) (by simp only [go_sem, Int.reduceLT, Int.reduceLE, Int.reduceEq, Int.reduceToNat, e', rowL_rep]) ?_) | (refine mcall_ret (jump hf hg) (by simp only [go_sem, Int.reduceLT, Int.reduceLE, Int.reduceEq, Int.reduceToNat, e', rowL_rep]) (by simp only [go_sem, Int.reduceLT, Int.reduceLE, Int.reduceEq, Int.reduceToNat, e', rowL_rep]) ?_)) | ((with_reducible refine And.intro ?_ ?_); first | (with_reducible rfl) | assumption | (simp only [go_sem]; done)))
  refine ret_cut hq hw _ (.inl rfl) ?_
  simp [go_sem]
theorem implMorphAt {H : List Blk} {f g : Nat → Int} {s t : Nat} (hf : F12 f) (hg : F12 g) (hst : s ≤ t) (ht : 1 ≤ t) (ht2 : t ≤ 200) : Cal Try.prog 61 [.a (rowL .u16 12 (f)), .a (rowL .u16 12 (g)), .v (.int .i64 s), .v (.int .i64 t)] H fun u H' => u = .t [.a (rowL .u16 12 (morphF f g (morphN f g s t))), .v (.int .i64 0)] ∧ H' = H := by
  have e' : (okF f && okF g) = true := by rw [okF_of hf, okF_of hg]; rfl
  have c1 : (decide ((1 : Int) ≤ (t : Int)) && decide ((t : Int) ≤ 200)) = true := by simp; omega
  have c2 : (decide ((0 : Int) ≤ (s : Int)) && decide ((s : Int) ≤ (t : Int))) = true := by simp; omega
  refine cal_fn 29 mixed Try.func61 Try.ntmps61 Try.results61 rfl rfl rfl fun hw cx hx hq => ?_
  repeat (first | (simp only [go_sem, Int.reduceLT, Int.reduceLE, Int.reduceEq, Int.reduceToNat, e', rowL_rep, c1, c2]) | ((with_reducible refine And.intro ?_ ?_); omega) | ((with_reducible refine isSK ?_); first | (refine call_ret (areFrames2 (by first | exact At.mk0 rfl | exact At.mk' 1 rfl rfl | exact At.mk' 2 rfl rfl | exact At.mk' 3 rfl rfl | exact At.mk' 4 rfl rfl | exact At.mk' 5 rfl rfl | exact At.mk' 6 rfl rfl | exact At.mk' 7 rfl rfl | exact At.mk' 8 rfl rfl | exact At.mk' 9 rfl rfl | exact At.mk' 10 rfl rfl | exact At.mk' 11 rfl rfl | exact At.mk' 12 rfl rfl | exact At.mk' 13 rfl rfl | exact At.mk' 14 rfl rfl | exact At.mk' 15 rfl rfl)) (by simp only [go_sem, Int.reduceLT, Int.reduceLE, Int.reduceEq, Int.reduceToNat, e', rowL_rep, c1, c2]) ?_) | (refine call_ret (inRange) (by simp only [go_sem, Int.reduceLT, Int.reduceLE, Int.reduceEq, Int.reduceToNat, e', rowL_rep, c1, c2]) ?_) | (refine call_ret (morph hf hg hst ht (by omega)) (by simp only [go_sem, Int.reduceLT, Int.reduceLE, Int.reduceEq, Int.reduceToNat, e', rowL_rep, c1, c2]) ?_)) | ((with_reducible refine isMC ?_); first | (refine mcall_ret (areFrames2 (by first | exact At.mk0 rfl | exact At.mk' 1 rfl rfl | exact At.mk' 2 rfl rfl | exact At.mk' 3 rfl rfl | exact At.mk' 4 rfl rfl | exact At.mk' 5 rfl rfl | exact At.mk' 6 rfl rfl | exact At.mk' 7 rfl rfl | exact At.mk' 8 rfl rfl | exact At.mk' 9 rfl rfl | exact At.mk' 10 rfl rfl | exact At.mk' 11 rfl rfl | exact At.mk' 12 rfl rfl | exact At.mk' 13 rfl rfl | exact At.mk' 14 rfl rfl | exact At.mk' 15 rfl rfl)) (by simp only [go_sem, Int.reduceLT, Int.reduceLE, Int.reduceEq, Int.reduceToNat, e', rowL_rep, c1, c2]) (by simp only [go_sem, Int.reduceLT, Int.reduceLE, Int.reduceEq, Int.reduceToNat, e', rowL_rep, c1, c2]) ?_) | (refine mcall_ret (inRange) (by simp only [go_sem, Int.reduceLT, Int.reduceLE, Int.reduceEq, Int.reduceToNat, e', rowL_rep, c1, c2]) (by simp only [go_sem, Int.reduceLT, Int.reduceLE, Int.reduceEq, Int.reduceToNat, e', rowL_rep, c1, c2]) ?_) | (refine mcall_ret (morph hf hg hst ht (by omega)) (by simp only [go_sem, Int.reduceLT, Int.reduceLE, Int.reduceEq, Int.reduceToNat, e', rowL_rep, c1, c2]) (by simp only [go_sem, Int.reduceLT, Int.reduceLE, Int.reduceEq, Int.reduceToNat, e', rowL_rep, c1, c2]) ?_)) | ((with_reducible refine And.intro ?_ ?_); first | (with_reducible rfl) | assumption | (simp only [go_sem]; done)))
  refine ret_cut hq hw _ (.inl rfl) ?_
  simp [go_sem]
theorem specMorphBook {H : List Blk} {f g : Nat → Int} {t : Nat} (hf : F12 f) (hg : F12 g) (ht : 1 ≤ t) (ht2 : t ≤ 39) : Cal Try.prog 58 [.a (rowL .u16 12 (f)), .a (rowL .u16 12 (g)), .v (.int .i64 t)] H fun u H' => u = .t [.s H.length 0 (t + 1) (.u 0), .v (.int .i64 0)] ∧ H' = H ++ [⟨(mbL f g t (t + 1)).flatMap (rowL .u16 12), 24, .own 12⟩] := by
  have o1 := okF_of hf
  have o2 := okF_of hg
  have e' : (okF f && okF g) = true := by rw [o1, o2]; rfl
  have c1 : (decide ((1 : Int) ≤ (t : Int)) && decide ((t : Int) ≤ 39)) = true := by simp; omega
  refine cal_fn 33 mixed Try.func58 Try.ntmps58 Try.results58 rfl rfl rfl fun hw cx hx hq => ?_
  repeat (first | (simp only [go_sem, Int.reduceLT, Int.reduceLE, Int.reduceEq, Int.reduceToNat, e', o1, o2, rowL_rep, c1]) | ((with_reducible refine And.intro ?_ ?_); omega) | ((with_reducible refine isSK ?_); first | (refine call_ret (l01Ok (At.mk0 rfl)) (by simp only [go_sem, Int.reduceLT, Int.reduceLE, Int.reduceEq, Int.reduceToNat, e', o1, o2, rowL_rep, c1]) ?_) | (refine call_ret (l01Ok (At.mk' 1 rfl rfl)) (by simp only [go_sem, Int.reduceLT, Int.reduceLE, Int.reduceEq, Int.reduceToNat, e', o1, o2, rowL_rep, c1]) ?_) | (refine call_ret (l00In) (by simp only [go_sem, Int.reduceLT, Int.reduceLE, Int.reduceEq, Int.reduceToNat, e', o1, o2, rowL_rep, c1]) ?_)) | ((with_reducible refine isMC ?_); first | (refine mcall_ret (l01Ok (At.mk0 rfl)) (by simp only [go_sem, Int.reduceLT, Int.reduceLE, Int.reduceEq, Int.reduceToNat, e', o1, o2, rowL_rep, c1]) (by simp only [go_sem, Int.reduceLT, Int.reduceLE, Int.reduceEq, Int.reduceToNat, e', o1, o2, rowL_rep, c1]) ?_) | (refine mcall_ret (l01Ok (At.mk' 1 rfl rfl)) (by simp only [go_sem, Int.reduceLT, Int.reduceLE, Int.reduceEq, Int.reduceToNat, e', o1, o2, rowL_rep, c1]) (by simp only [go_sem, Int.reduceLT, Int.reduceLE, Int.reduceEq, Int.reduceToNat, e', o1, o2, rowL_rep, c1]) ?_) | (refine mcall_ret (l00In) (by simp only [go_sem, Int.reduceLT, Int.reduceLE, Int.reduceEq, Int.reduceToNat, e', o1, o2, rowL_rep, c1]) (by simp only [go_sem, Int.reduceLT, Int.reduceLE, Int.reduceEq, Int.reduceToNat, e', o1, o2, rowL_rep, c1]) ?_)) | ((with_reducible refine And.intro ?_ ?_); first | (with_reducible rfl) | assumption | (simp only [go_sem]; done)))
  refine WK_for (fun n : Nat => ⟨[.any, .any, .v (.int .i64 t), .p H.length 0, .p (H.length + 1) 0, .any, .any, .any, .s (H.length + 2) 0 n (.u 0), .v (.int .i64 n)] ++ junk 26, H ++ [⟨rowL .u16 12 (f), 24, .fix⟩, ⟨rowL .u16 12 (g), 24, .fix⟩, ⟨(mbL f g t n).flatMap (rowL .u16 12), 24, .own 12⟩]⟩) (fun n => n ≤ t + 1) (fun n => t + 1 - n) 0 ?_ ?_ fun n hn => ?_
  · simp only [mbL, List.range_zero, List.map_nil, List.flatMap_nil]
    exact Weak.slots (by simp [go_sem])
  · simp
  have hl2 : ((mbL f g t n).flatMap (rowL .u16 12)).length = n * 12 := by rw [(flat_rowL .u16 12).flen, mbL_len]
  have hn1 : norefH (H.length + 2) H := norefH_wf hw (by omega)
  have hn2 : norefs (H.length + 2) ((mbL f g t n).flatMap (rowL .u16 12)) = true := (flat_rowL .u16 12).norefs _ _
  have d1 : (H.length = H.length + 2) = False := eq_false (by omega)
  have d2 : (H.length + 1 = H.length + 2) = False := eq_false (by omega)
  have d3 : (H.length + 3 = H.length + 2) = False := eq_false (by omega)
  rcases Int.lt_or_le (t : Int) (n : Int) with hc | hc
  · have : n = t + 1 := by omega
    subst this
    have hc1 : (((t + 1 : Nat) : Int) ≤ (t : Int)) = False := eq_false (by omega)
    have hc2 : ((t : Int) + 1 ≤ (t : Int)) = False := eq_false (by omega)
    repeat (first | (simp only [go_sem, Int.reduceLT, Int.reduceLE, Int.reduceEq, Int.reduceToNat, hc1, hc2]) | ((with_reducible refine And.intro ?_ ?_); omega) | ((with_reducible refine And.intro ?_ ?_); first | (with_reducible rfl) | assumption | (simp only [go_sem]; done)))
    refine ret_one hq hw _ (.inl rfl) 2 rfl (by rw [(flat_rowL .u16 12).lts]; trivial) (.t [.s H.length 0 (t + 1) (.u 0), .v (.int .i64 0)]) (by simp [go_sem] <;> rfl) ?_
    simp [go_sem, conc, concs, upσ, Cap.val]
  · have hc1 : ((n : Int) ≤ (t : Int)) = True := eq_true hc
    repeat (first | (simp only [go_sem, Int.reduceLT, Int.reduceLE, Int.reduceEq, Int.reduceToNat, hc1, hl2, hn1, hn2, d1, d2, d3, hx, rowL_rep, rowL_length]) | ((with_reducible refine And.intro ?_ ?_); omega) | ((with_reducible refine isSK ?_); first | (refine call_ret (l03Morph hf hg (by omega) ht (by omega)) (by simp only [go_sem, Int.reduceLT, Int.reduceLE, Int.reduceEq, Int.reduceToNat, hc1, hl2, hn1, hn2, d1, d2, d3, hx, rowL_rep, rowL_length]) ?_)) | ((with_reducible refine isMC ?_); first | (refine mcall_ret (l03Morph hf hg (by omega) ht (by omega)) (by simp only [go_sem, Int.reduceLT, Int.reduceLE, Int.reduceEq, Int.reduceToNat, hc1, hl2, hn1, hn2, d1, d2, d3, hx, rowL_rep, rowL_length]) (by simp only [go_sem, Int.reduceLT, Int.reduceLE, Int.reduceEq, Int.reduceToNat, hc1, hl2, hn1, hn2, d1, d2, d3, hx, rowL_rep, rowL_length]) ?_)) | ((with_reducible refine And.intro ?_ ?_); first | (with_reducible rfl) | assumption | (simp only [go_sem]; done)))
    refine EK_again (n + 1) ?_ (by omega) (by omega)
    rw [mbL_succ, List.flatMap_append, List.flatMap_singleton]
    exact Weak.keepN rfl (by simp [go_sem] <;> omega) (by simp [hx]) (by simp [go_sem, (flat_rowL .u16 12).lts] <;> omega) (hw.app (by simp [go_sem, (flat_rowL .u16 12).lts] <;> omega))
theorem implMorphBook {H : List Blk} {f g : Nat → Int} {t : Nat} (hf : F12 f) (hg : F12 g) (ht : 1 ≤ t) (ht2 : t ≤ 39) : Cal Try.prog 57 [.a (rowL .u16 12 (f)), .a (rowL .u16 12 (g)), .v (.int .i64 t)] H fun u H' => u = .t [.s H.length 0 (t + 1) (.u 0), .v (.int .i64 0)] ∧ H' = H ++ [⟨(mbL f g t (t + 1)).flatMap (rowL .u16 12), 24, .own 12⟩] := by
  have o1 := okF_of hf
  have o2 := okF_of hg
  have e' : (okF f && okF g) = true := by rw [o1, o2]; rfl
  have c1 : (decide ((1 : Int) ≤ (t : Int)) && decide ((t : Int) ≤ 39)) = true := by simp; omega
  refine cal_fn 32 mixed Try.func57 Try.ntmps57 Try.results57 rfl rfl rfl fun hw cx hx hq => ?_
  repeat (first | (simp only [go_sem, Int.reduceLT, Int.reduceLE, Int.reduceEq, Int.reduceToNat, e', o1, o2, rowL_rep, c1]) | ((with_reducible refine And.intro ?_ ?_); omega) | ((with_reducible refine isSK ?_); first | (refine call_ret (areFrames2 (by first | exact At.mk0 rfl | exact At.mk' 1 rfl rfl | exact At.mk' 2 rfl rfl | exact At.mk' 3 rfl rfl | exact At.mk' 4 rfl rfl | exact At.mk' 5 rfl rfl | exact At.mk' 6 rfl rfl | exact At.mk' 7 rfl rfl | exact At.mk' 8 rfl rfl | exact At.mk' 9 rfl rfl | exact At.mk' 10 rfl rfl | exact At.mk' 11 rfl rfl | exact At.mk' 12 rfl rfl | exact At.mk' 13 rfl rfl | exact At.mk' 14 rfl rfl | exact At.mk' 15 rfl rfl)) (by simp only [go_sem, Int.reduceLT, Int.reduceLE, Int.reduceEq, Int.reduceToNat, e', o1, o2, rowL_rep, c1]) ?_) | (refine call_ret (inRange) (by simp only [go_sem, Int.reduceLT, Int.reduceLE, Int.reduceEq, Int.reduceToNat, e', o1, o2, rowL_rep, c1]) ?_)) | ((with_reducible refine isMC ?_); first | (refine mcall_ret (areFrames2 (by first | exact At.mk0 rfl | exact At.mk' 1 rfl rfl | exact At.mk' 2 rfl rfl | exact At.mk' 3 rfl rfl | exact At.mk' 4 rfl rfl | exact At.mk' 5 rfl rfl | exact At.mk' 6 rfl rfl | exact At.mk' 7 rfl rfl | exact At.mk' 8 rfl rfl | exact At.mk' 9 rfl rfl | exact At.mk' 10 rfl rfl | exact At.mk' 11 rfl rfl | exact At.mk' 12 rfl rfl | exact At.mk' 13 rfl rfl | exact At.mk' 14 rfl rfl | exact At.mk' 15 rfl rfl)) (by simp only [go_sem, Int.reduceLT, Int.reduceLE, Int.reduceEq, Int.reduceToNat, e', o1, o2, rowL_rep, c1]) (by simp only [go_sem, Int.reduceLT, Int.reduceLE, Int.reduceEq, Int.reduceToNat, e', o1, o2, rowL_rep, c1]) ?_) | (refine mcall_ret (inRange) (by simp only [go_sem, Int.reduceLT, Int.reduceLE, Int.reduceEq, Int.reduceToNat, e', o1, o2, rowL_rep, c1]) (by simp only [go_sem, Int.reduceLT, Int.reduceLE, Int.reduceEq, Int.reduceToNat, e', o1, o2, rowL_rep, c1]) ?_)) | ((with_reducible refine And.intro ?_ ?_); first | (with_reducible rfl) | assumption | (simp only [go_sem]; done)))
  refine WK_for (fun n : Nat => ⟨[.any, .any, .v (.int .i64 t), .p H.length 0, .p (H.length + 1) 0, .any, .any, .any, .s (H.length + 2) 0 n (.u 0), .v (.int .i64 n)] ++ junk 25, H ++ [⟨rowL .u16 12 (f), 24, .fix⟩, ⟨rowL .u16 12 (g), 24, .fix⟩, ⟨(mbL f g t n).flatMap (rowL .u16 12), 24, .own 12⟩]⟩) (fun n => n ≤ t + 1) (fun n => t + 1 - n) 0 ?_ ?_ fun n hn => ?_
  · simp only [mbL, List.range_zero, List.map_nil, List.flatMap_nil]
    exact Weak.pickC [some 0, some 1, some 3] (by simp [go_sem]) (by decide) (by simp [hx]) hw (by simp [go_sem] <;> omega)
  · simp
  have hl2 : ((mbL f g t n).flatMap (rowL .u16 12)).length = n * 12 := by rw [(flat_rowL .u16 12).flen, mbL_len]
  have hn1 : norefH (H.length + 2) H := norefH_wf hw (by omega)
  have hn2 : norefs (H.length + 2) ((mbL f g t n).flatMap (rowL .u16 12)) = true := (flat_rowL .u16 12).norefs _ _
  have d1 : (H.length = H.length + 2) = False := eq_false (by omega)
  have d2 : (H.length + 1 = H.length + 2) = False := eq_false (by omega)
  have d3 : (H.length + 3 = H.length + 2) = False := eq_false (by omega)
  rcases Int.lt_or_le (t : Int) (n : Int) with hc | hc
  · have : n = t + 1 := by omega
    subst this
    have hc1 : (((t + 1 : Nat) : Int) ≤ (t : Int)) = False := eq_false (by omega)
    have hc2 : ((t : Int) + 1 ≤ (t : Int)) = False := eq_false (by omega)
    repeat (first | (simp only [go_sem, Int.reduceLT, Int.reduceLE, Int.reduceEq, Int.reduceToNat, hc1, hc2]) | ((with_reducible refine And.intro ?_ ?_); omega) | ((with_reducible refine And.intro ?_ ?_); first | (with_reducible rfl) | assumption | (simp only [go_sem]; done)))
    refine ret_one hq hw _ (.inl rfl) 2 rfl (by rw [(flat_rowL .u16 12).lts]; trivial) (.t [.s H.length 0 (t + 1) (.u 0), .v (.int .i64 0)]) (by simp [go_sem] <;> rfl) ?_
    simp [go_sem, conc, concs, upσ, Cap.val]
  · have hc1 : ((n : Int) ≤ (t : Int)) = True := eq_true hc
    repeat (first | (simp only [go_sem, Int.reduceLT, Int.reduceLE, Int.reduceEq, Int.reduceToNat, hc1, hl2, hn1, hn2, d1, d2, d3, hx, rowL_rep, rowL_length]) | ((with_reducible refine And.intro ?_ ?_); omega) | ((with_reducible refine isSK ?_); first | (refine call_ret (morph hf hg (by omega) ht (by omega)) (by simp only [go_sem, Int.reduceLT, Int.reduceLE, Int.reduceEq, Int.reduceToNat, hc1, hl2, hn1, hn2, d1, d2, d3, hx, rowL_rep, rowL_length]) ?_)) | ((with_reducible refine isMC ?_); first | (refine mcall_ret (morph hf hg (by omega) ht (by omega)) (by simp only [go_sem, Int.reduceLT, Int.reduceLE, Int.reduceEq, Int.reduceToNat, hc1, hl2, hn1, hn2, d1, d2, d3, hx, rowL_rep, rowL_length]) (by simp only [go_sem, Int.reduceLT, Int.reduceLE, Int.reduceEq, Int.reduceToNat, hc1, hl2, hn1, hn2, d1, d2, d3, hx, rowL_rep, rowL_length]) ?_)) | ((with_reducible refine And.intro ?_ ?_); first | (with_reducible rfl) | assumption | (simp only [go_sem]; done)))
    refine EK_again (n + 1) ?_ (by omega) (by omega)
    rw [mbL_succ, List.flatMap_append, List.flatMap_singleton]
    exact Weak.keepN rfl (by simp [go_sem] <;> omega) (by simp [hx]) (by simp [go_sem, (flat_rowL .u16 12).lts] <;> omega) (hw.app (by simp [go_sem, (flat_rowL .u16 12).lts] <;> omega))
end Go.Proofs.Ytpginknbmmdmoaa

