/- Contracts of functions of the translated program, by the walk. -/
import Derived.Test.YtcebmjajnbafoaaGreatDoorK21
import Derived.Test.YtcebmjajnbafoaaGreatDoorK9
import Derived.Test.YtcebmjajnbafoaaGreatDoorK6
import Derived.Test.YtcebmjajnbafoaaGreatDoorLD
import Derived.Test.YtcebmjajnbafoaaGreatDoorK14
set_option linter.unusedVariables false
set_option linter.unusedSimpArgs false
set_option maxRecDepth 8000
set_option maxHeartbeats 16000000
namespace Go.Proofs.YtcebmjajnbafoaaGreatDoor
open Go Go.Sx
def jnG (la lb : List (Nat → Int)) (a : Nat → Int) : Nat → Int := keyF (a 0 + jnD la lb) (a 1) (a 2)
def jnW (la lb : List (Nat → Int)) (n : Nat) : List (Nat → Int) := la ++ ((lb.take n).drop 1).map (jnG la lb)
theorem jnW_one (la lb : List (Nat → Int)) : jnW la lb 1 = la := by
  unfold jnW
  rw [List.drop_eq_nil_of_le (by simp; omega)]; simp
theorem jnW_all (la lb : List (Nat → Int)) : jnW la lb lb.length = jnN la lb := by unfold jnW jnN jnG; rw [List.take_length]
theorem jnW_succ (la lb : List (Nat → Int)) {n : Nat} (h1 : 1 ≤ n) (h : n < lb.length) : jnW la lb (n + 1) = jnW la lb n ++ [jnG la lb lb[n]] := by
  unfold jnW
  rw [List.take_succ_eq_append_getElem h, List.drop_append_of_le_length (by rw [List.length_take]; omega), List.map_append, List.append_assoc]; rfl
theorem jnW_len (la lb : List (Nat → Int)) {n : Nat} (h1 : 1 ≤ n) (h : n ≤ lb.length) : (jnW la lb n).length = la.length + (n - 1) := by
  unfold jnW; rw [List.length_append, List.length_map, List.length_drop, List.length_take]; omega
theorem specJoinTracks_ok {H : List Blk} {v w : V} {la lb : List (Nat → Int)} (h : Rd H v encK la) (h2 : Rd H w encK lb) (hK : ∀ a ∈ la, KyW a) (hK2 : ∀ a ∈ lb, KyW a) (hl : la.length ≤ 1000000) (hl2 : lb.length ≤ 1000000) (hc : jnC la lb = 0) :
    Cal Tryz.prog 27 [v, w] H fun u H' => u = .t [.s H.length 0 (jnL la lb).length (.u 0), .v (.int .i64 0)] ∧ H' = H ++ [⟨(jnL la lb).flatMap encK, 42, .own 3⟩] := by
  have hsol := h.solid
  have hsol2 := h2.solid
  have hL := h.lenV (P := Tryz.prog) slTy25
  have hL2 := h2.lenV (P := Tryz.prog) slTy25
  obtain ⟨e1, e2, hS1, hv2⟩ := jnC_ok hc
  refine cal_fn 88 mixed Tryz.func27 Tryz.ntmps27 Tryz.results27 rfl rfl rfl fun hw cx hx hq => ?_
  have hlen := tkOk_len e1
  have hlen2 := tkOk_len e2
  obtain ⟨m, hm⟩ : ∃ m, la.length = m + 1 := ⟨la.length - 1, by omega⟩
  have hjm : m < la.length := by omega
  have hj0 : 0 < lb.length := by omega
  have h0 := h
  have h20 := h2
  obtain ⟨i, off, c, b, rfl, hat, hfit⟩ := h.full (by omega)
  have hlt := hat.lt
  have g2 : ∀ L : List Blk, (H ++ L)[i]? = some b := fun L => get_app hat.get
  obtain ⟨i2, off2, c2, b2, rfl, hat2, hfit2⟩ := h2.full (by omega)
  have hlt2 := hat2.lt
  have g22 : ∀ L : List Blk, (H ++ L)[i2]? = some b2 := fun L => get_app hat2.get
  have tm : ((la.length : Int) - 1).toNat = m := by omega
  have pe : At H i (off + m * 3) (rowK kK 3 la[m]) b := hat.el encK_len hjm
  have pf := hat.fits encK 3 encK_len hjm (by omega)
  have pa := hat.elem encK 3 encK_len hjm
  have pk := okK_iff.1 (tkOk_at e1 hjm).1
  have qf : off2 + 3 ≤ b2.cells.length := by simpa using hat2.fits encK 3 encK_len hj0 (by omega)
  have qe : At H i2 off2 (rowK kK 3 lb[0]) b2 := by
    have := hat2.el encK_len hj0
    rw [Nat.zero_mul, Nat.add_zero] at this; exact this
  have q0 : cel b2.cells off2 = .v (.int .i16 (lb[0] 0)) := qe.celK (j := 0) (by omega)
  have q1 : cel b2.cells (off2 + 1) = .v (.int .i8 (lb[0] 1)) := qe.celK (j := 1) (by omega)
  have q2 : cel b2.cells (off2 + 2) = .v (.int .i8 (lb[0] 2)) := qe.celK (j := 2) (by omega)
  have qk := okK_iff.1 (tkOk_at e2 hj0).1
  have ka : ∀ x, kAt la (la.length - 1) x = la[m] x := fun x => by rw [show la.length - 1 = m by omega, kAt_at hjm]
  have kb : ∀ x, kAt lb 0 x = lb[0] x := fun x => by rw [kAt_at hj0]
  have hS : jnS la lb = (decide (la[m] 1 = lb[0] 1) && decide (la[m] 2 = lb[0] 2)) := by unfold jnS; rw [ka, ka, kb, kb]
  have hD : jnD la lb = la[m] 0 - lb[0] 0 := by unfold jnD; rw [ka, kb]
  have hDr := jnD_r e1 e2
  have s3 : ∀ f : Nat → Int, seg (encK f) 0 3 = encK f := fun f => rfl
  have hS2 := hS1
  rw [hS] at hS2
  simp only [Bool.and_eq_true, decide_eq_true_eq] at hS2
  have b1 : (la[m] 1 = lb[0] 1) = True := eq_true hS2.1
  have b2' : (la[m] 2 = lb[0] 2) = True := eq_true hS2.2
  have hokA : ∀ a ∈ la, okK a = true := fun a ha => by
    obtain ⟨j, hj, rfl⟩ := List.mem_iff_getElem.1 ha
    exact (tkOk_at e1 hj).1
  have hokB : ∀ a ∈ lb, okK a = true := fun a ha => by
    obtain ⟨j, hj, rfl⟩ := List.mem_iff_getElem.1 ha
    exact (tkOk_at e2 hj).1
  repeat (first | (simp only [go_sem, Int.reduceLT, Int.reduceLE, Int.reduceEq, Int.reduceToNat, celK0, celK1, celK2, encK_len, hat.get, g2, hat.live, hlt, hat2.get, g22, hat2.live, hlt2, tm, pf, pa, qf, q0, q1, q2, s3, hL, hL2, e1, e2, b1, b2']) | ((with_reducible refine And.intro ?_ ?_); omega) | ((with_reducible refine isSK ?_); first | (refine call_ret (l03Ok h0 hK hl) (by simp only [go_sem, Int.reduceLT, Int.reduceLE, Int.reduceEq, Int.reduceToNat, celK0, celK1, celK2, encK_len, hat.get, g2, hat.live, hlt, hat2.get, g22, hat2.live, hlt2, tm, pf, pa, qf, q0, q1, q2, s3, hL, hL2, e1, e2, b1, b2']) ?_) | (refine call_ret (l03Ok h20 hK2 hl2) (by simp only [go_sem, Int.reduceLT, Int.reduceLE, Int.reduceEq, Int.reduceToNat, celK0, celK1, celK2, encK_len, hat.get, g2, hat.live, hlt, hat2.get, g22, hat2.live, hlt2, tm, pf, pa, qf, q0, q1, q2, s3, hL, hL2, e1, e2, b1, b2']) ?_)) | ((with_reducible refine isMC ?_); first | (refine mcall_ret (l03Ok h0 hK hl) (by simp only [go_sem, Int.reduceLT, Int.reduceLE, Int.reduceEq, Int.reduceToNat, celK0, celK1, celK2, encK_len, hat.get, g2, hat.live, hlt, hat2.get, g22, hat2.live, hlt2, tm, pf, pa, qf, q0, q1, q2, s3, hL, hL2, e1, e2, b1, b2']) (by simp only [go_sem, Int.reduceLT, Int.reduceLE, Int.reduceEq, Int.reduceToNat, celK0, celK1, celK2, encK_len, hat.get, g2, hat.live, hlt, hat2.get, g22, hat2.live, hlt2, tm, pf, pa, qf, q0, q1, q2, s3, hL, hL2, e1, e2, b1, b2']) ?_) | (refine mcall_ret (l03Ok h20 hK2 hl2) (by simp only [go_sem, Int.reduceLT, Int.reduceLE, Int.reduceEq, Int.reduceToNat, celK0, celK1, celK2, encK_len, hat.get, g2, hat.live, hlt, hat2.get, g22, hat2.live, hlt2, tm, pf, pa, qf, q0, q1, q2, s3, hL, hL2, e1, e2, b1, b2']) (by simp only [go_sem, Int.reduceLT, Int.reduceLE, Int.reduceEq, Int.reduceToNat, celK0, celK1, celK2, encK_len, hat.get, g2, hat.live, hlt, hat2.get, g22, hat2.live, hlt2, tm, pf, pa, qf, q0, q1, q2, s3, hL, hL2, e1, e2, b1, b2']) ?_)) | ((with_reducible refine isWKr (id := 4) ?_); refine WK_drawAt 4 [[],[0],[],[2],[2,3],[2,3,4],[0,1,2,3,4,5],[0,1,2,3,4,5,6],[0,1,2,3,4,5,6,7],[0,1,2,3,4,5,6,7,8],[0,1,2,3,4,5,6,7],[0,1,2,3,4,5,6,7,10],[0,1,2,3,4,5,6,7,10,11],[0,1,2,3,4,5,6,7,10,11,12],[0,1,2,3,4,5,6,7,8,9,10,11,12,13],[0,1,2,3,4,5,6,7,8,9,10,11,12,13,14]] (by kernel_rfl) ?_) | ((with_reducible refine isWKr (id := 15) ?_); refine WK_drawAt 15 [[],[0],[],[2],[2,3],[],[5],[5,6],[5,6,7],[5,6,7,8],[2,3,4,5,6,7,8,9],[0,1,2,3,4,5,6,7,8,9,10],[0,1,2,3,4,5,6,7,8,9,10,11],[0,1,2,3,4,5,6,7,8,9,10,11,12]] (by kernel_rfl) ?_) | ((with_reducible refine And.intro ?_ ?_); first | (with_reducible rfl) | assumption | (simp only [go_sem]; done)))
  refine WK_for (fun n : Nat => ⟨[.s i off la.length c, .s i2 off2 lb.length c2, .any, .any, .any, .any, .p H.length 0, .s (H.length + 1) 0 n (.u 0), .v (.int .i64 n)] ++ junk 81, H ++ [⟨encK la[m], 42, .fix⟩, ⟨(la.take n).flatMap (rowL .i64 3), 82, .own 3⟩]⟩) (fun n => n ≤ la.length) (fun n => la.length - n) 0 ?_ ?_ fun n hn => ?_
  · exact Weak.slots (by simp [go_sem])
  · omega
  rcases Int.lt_or_le (n : Int) la.length with hc1 | hc1
  · have hjn : n < la.length := by omega
    have xa := hat.elem encK 3 encK_len hjn
    have xf := hat.fits encK 3 encK_len hjn (by omega)
    have hn1 : norefH (H.length + 1) H := norefH_wf hw (by omega)
    have hn3 : norefs (H.length + 1) (encK la[m]) = true := flat_encK.norefs1 _ _
    have hd1 : (H.length + 1 + 1 = H.length + 1) = False := eq_false (by omega)
    have hd2 : (i = H.length + 1) = False := eq_false (by omega)
    have hd3 : (H.length + 2 = H.length + 1) = False := eq_false (by omega)
    have hd4 : (H.length = H.length + 1) = False := eq_false (by omega)
    have hd5 : (i2 = H.length + 1) = False := eq_false (by omega)
    have hd6 : (H.length + 3 = H.length + 1) = False := eq_false (by omega)
    have hd7 : (H.length + 4 = H.length + 1) = False := eq_false (by omega)
    have wz : ∀ f : Nat → Int, wr [.v (.int .i64 0), .v (.int .i64 0), .v (.int .i64 0)] 0 (rowL .i64 3 f) = rowL .i64 3 f := fun f => rfl
    have hn2 : norefs (H.length + 1) ((la.take n).flatMap (rowL .i64 3)) = true := (flat_rowL .i64 3).norefs _ _
    have hl2 : ((la.take n).flatMap (rowL .i64 3)).length = n * 3 := by rw [(flat_rowL .i64 3).flen, List.length_take, Nat.min_eq_left (by omega)]
    have q0' : cel (rowL .i64 3 la[n]) 0 = .v (.int .i64 (la[n] 0)) := rfl
    have q1' : cel (rowL .i64 3 la[n]) 1 = .v (.int .i64 (la[n] 1)) := rfl
    have q2' : cel (rowL .i64 3 la[n]) 2 = .v (.int .i64 (la[n] 2)) := rfl
    repeat (first | (simp only [go_sem, Int.reduceLT, Int.reduceLE, Int.reduceEq, Int.reduceToNat, hL, hL2, hc1, hat.get, g2, hat.live, hlt, xa, xf, q0', q1', q2', hn1, hn2, hn3, hl2, hd1, hd2, hd3, hd4, hd5, hd6, hd7, hx, wz, encK_len]) | ((with_reducible refine And.intro ?_ ?_); omega) | ((with_reducible refine isSK ?_); first | (refine call_ret (l03Numbers (okK_KyW (hokA _ (List.getElem_mem hjn)))) (by simp only [go_sem, Int.reduceLT, Int.reduceLE, Int.reduceEq, Int.reduceToNat, hL, hL2, hc1, hat.get, g2, hat.live, hlt, xa, xf, q0', q1', q2', hn1, hn2, hn3, hl2, hd1, hd2, hd3, hd4, hd5, hd6, hd7, hx, wz, encK_len]) ?_)) | ((with_reducible refine isMC ?_); first | (refine mcall_ret (l03Numbers (okK_KyW (hokA _ (List.getElem_mem hjn)))) (by simp only [go_sem, Int.reduceLT, Int.reduceLE, Int.reduceEq, Int.reduceToNat, hL, hL2, hc1, hat.get, g2, hat.live, hlt, xa, xf, q0', q1', q2', hn1, hn2, hn3, hl2, hd1, hd2, hd3, hd4, hd5, hd6, hd7, hx, wz, encK_len]) (by simp only [go_sem, Int.reduceLT, Int.reduceLE, Int.reduceEq, Int.reduceToNat, hL, hL2, hc1, hat.get, g2, hat.live, hlt, xa, xf, q0', q1', q2', hn1, hn2, hn3, hl2, hd1, hd2, hd3, hd4, hd5, hd6, hd7, hx, wz, encK_len]) ?_)) | ((with_reducible refine isWKr (id := 4) ?_); refine WK_drawAt 4 [[],[0],[],[2],[2,3],[2,3,4],[0,1,2,3,4,5],[0,1,2,3,4,5,6],[0,1,2,3,4,5,6,7],[0,1,2,3,4,5,6,7,8],[0,1,2,3,4,5,6,7],[0,1,2,3,4,5,6,7,10],[0,1,2,3,4,5,6,7,10,11],[0,1,2,3,4,5,6,7,10,11,12],[0,1,2,3,4,5,6,7,8,9,10,11,12,13],[0,1,2,3,4,5,6,7,8,9,10,11,12,13,14]] (by kernel_rfl) ?_) | ((with_reducible refine isWKr (id := 15) ?_); refine WK_drawAt 15 [[],[0],[],[2],[2,3],[],[5],[5,6],[5,6,7],[5,6,7,8],[2,3,4,5,6,7,8,9],[0,1,2,3,4,5,6,7,8,9,10],[0,1,2,3,4,5,6,7,8,9,10,11],[0,1,2,3,4,5,6,7,8,9,10,11,12]] (by kernel_rfl) ?_) | ((with_reducible refine And.intro ?_ ?_); first | (with_reducible rfl) | assumption | (simp only [go_sem]; done)))
    refine EK_again (n + 1) ?_ (by omega) (by omega)
    rw [List.take_succ_eq_append_getElem hjn, flat_snoc]
    exact Weak.keepN rfl (by simp [go_sem] <;> omega) (by simp [hx]) (by simp [go_sem, flat_encK.lts1, (flat_rowL .i64 3).lts, hlt] <;> omega) (hw.app (by simp [go_sem, flat_encK.lts1, (flat_rowL .i64 3).lts, hlt] <;> omega))
  have hnl : n = la.length := by omega
  subst hnl
  rw [List.take_length]
  repeat (first | (simp only [go_sem, Int.reduceLT, Int.reduceLE, Int.reduceEq, Int.reduceToNat, hL, Int.not_lt.2 hc1]) | ((with_reducible refine And.intro ?_ ?_); omega) | ((with_reducible refine isWKr (id := 4) ?_); refine WK_drawAt 4 [[],[0],[],[2],[2,3],[2,3,4],[0,1,2,3,4,5],[0,1,2,3,4,5,6],[0,1,2,3,4,5,6,7],[0,1,2,3,4,5,6,7,8],[0,1,2,3,4,5,6,7],[0,1,2,3,4,5,6,7,10],[0,1,2,3,4,5,6,7,10,11],[0,1,2,3,4,5,6,7,10,11,12],[0,1,2,3,4,5,6,7,8,9,10,11,12,13],[0,1,2,3,4,5,6,7,8,9,10,11,12,13,14]] (by kernel_rfl) ?_) | ((with_reducible refine isWKr (id := 15) ?_); refine WK_drawAt 15 [[],[0],[],[2],[2,3],[],[5],[5,6],[5,6,7],[5,6,7,8],[2,3,4,5,6,7,8,9],[0,1,2,3,4,5,6,7,8,9,10],[0,1,2,3,4,5,6,7,8,9,10,11],[0,1,2,3,4,5,6,7,8,9,10,11,12]] (by kernel_rfl) ?_) | ((with_reducible refine And.intro ?_ ?_); first | (with_reducible rfl) | assumption | (simp only [go_sem]; done)))
  clear hc1 hn
  refine WK_for (fun n : Nat => ⟨[.s i off la.length c, .s i2 off2 lb.length c2, .any, .any, .any, .any, .p H.length 0, .s (H.length + 1) 0 (jnW la lb n).length (.u 0), .any, .v (.int .i64 n)] ++ junk 80, H ++ [⟨encK la[m], 42, .fix⟩, ⟨(jnW la lb n).flatMap (rowL .i64 3), 82, .own 3⟩]⟩) (fun n => 1 ≤ n ∧ n ≤ lb.length) (fun n => lb.length - n) 1 ?_ ?_ fun n hn => ?_
  · rw [jnW_one]
    exact Weak.slots (by simp [go_sem])
  · omega
  rcases Int.lt_or_le (n : Int) lb.length with hc1 | hc1
  · have hjn : n < lb.length := by omega
    have xa := hat2.elem encK 3 encK_len hjn
    have xf := hat2.fits encK 3 encK_len hjn (by omega)
    have xk := okK_iff.1 (hokB _ (List.getElem_mem hjn))
    have hn1 : norefH (H.length + 1) H := norefH_wf hw (by omega)
    have hn3 : norefs (H.length + 1) (encK la[m]) = true := flat_encK.norefs1 _ _
    have hd1 : (H.length + 1 + 1 = H.length + 1) = False := eq_false (by omega)
    have hd2 : (i = H.length + 1) = False := eq_false (by omega)
    have hd3 : (H.length + 2 = H.length + 1) = False := eq_false (by omega)
    have hd4 : (H.length = H.length + 1) = False := eq_false (by omega)
    have hd5 : (i2 = H.length + 1) = False := eq_false (by omega)
    have hd6 : (H.length + 3 = H.length + 1) = False := eq_false (by omega)
    have hd7 : (H.length + 4 = H.length + 1) = False := eq_false (by omega)
    have wz : ∀ f : Nat → Int, wr [.v (.int .i64 0), .v (.int .i64 0), .v (.int .i64 0)] 0 (rowL .i64 3 f) = rowL .i64 3 f := fun f => rfl
    have hn2 : norefs (H.length + 1) ((jnW la lb n).flatMap (rowL .i64 3)) = true := (flat_rowL .i64 3).norefs _ _
    have hl2 : ((jnW la lb n).flatMap (rowL .i64 3)).length = (jnW la lb n).length * 3 := (flat_rowL .i64 3).flen _
    have hjl := jnW_len la lb hn.1 hn.2
    have q0' : cel (rowL .i64 3 lb[n]) 0 = .v (.int .i64 (lb[n] 0)) := rfl
    have q1' : cel (rowL .i64 3 lb[n]) 1 = .v (.int .i64 (lb[n] 1)) := rfl
    have q2' : cel (rowL .i64 3 lb[n]) 2 = .v (.int .i64 (lb[n] 2)) := rfl
    have w1 : rowL .i64 3 (jnG la lb lb[n]) = [.v (.int .i64 (lb[n] 0 + (la[m] 0 - lb[0] 0))), .v (.int .i64 (lb[n] 1)), .v (.int .i64 (lb[n] 2))] := by unfold jnG; rw [hD]; rfl
    have w2 : ∀ x : Int, wr (rowL .i64 3 lb[n]) 0 [.v (.int .i64 x)] = [.v (.int .i64 x), .v (.int .i64 (lb[n] 1)), .v (.int .i64 (lb[n] 2))] := fun x => rfl
    have w3 : ∀ p q r : V, seg [p, q, r] 0 3 = [p, q, r] := fun _ _ _ => rfl
    rw [hD] at hDr
    repeat (first | (simp only [go_sem, Int.reduceLT, Int.reduceLE, Int.reduceEq, Int.reduceToNat, hL, hL2, hc1, celK0, celK1, celK2, encK_len, hat.get, g2, hat.live, hlt, hat2.get, g22, hat2.live, hlt2, tm, pf, pa, qf, q0, q1, q2, s3, xa, xf, w2, w3, q0', q1', q2', hn1, hn2, hn3, hl2, hd1, hd2, hd3, hd4, hd5, hd6, hd7, hx, wz, encK_len]) | ((with_reducible refine And.intro ?_ ?_); omega) | ((with_reducible refine isSK ?_); first | (refine call_ret (l03Numbers (okK_KyW (hokB _ (List.getElem_mem hjn)))) (by simp only [go_sem, Int.reduceLT, Int.reduceLE, Int.reduceEq, Int.reduceToNat, hL, hL2, hc1, celK0, celK1, celK2, encK_len, hat.get, g2, hat.live, hlt, hat2.get, g22, hat2.live, hlt2, tm, pf, pa, qf, q0, q1, q2, s3, xa, xf, w2, w3, q0', q1', q2', hn1, hn2, hn3, hl2, hd1, hd2, hd3, hd4, hd5, hd6, hd7, hx, wz, encK_len]) ?_)) | ((with_reducible refine isMC ?_); first | (refine mcall_ret (l03Numbers (okK_KyW (hokB _ (List.getElem_mem hjn)))) (by simp only [go_sem, Int.reduceLT, Int.reduceLE, Int.reduceEq, Int.reduceToNat, hL, hL2, hc1, celK0, celK1, celK2, encK_len, hat.get, g2, hat.live, hlt, hat2.get, g22, hat2.live, hlt2, tm, pf, pa, qf, q0, q1, q2, s3, xa, xf, w2, w3, q0', q1', q2', hn1, hn2, hn3, hl2, hd1, hd2, hd3, hd4, hd5, hd6, hd7, hx, wz, encK_len]) (by simp only [go_sem, Int.reduceLT, Int.reduceLE, Int.reduceEq, Int.reduceToNat, hL, hL2, hc1, celK0, celK1, celK2, encK_len, hat.get, g2, hat.live, hlt, hat2.get, g22, hat2.live, hlt2, tm, pf, pa, qf, q0, q1, q2, s3, xa, xf, w2, w3, q0', q1', q2', hn1, hn2, hn3, hl2, hd1, hd2, hd3, hd4, hd5, hd6, hd7, hx, wz, encK_len]) ?_)) | ((with_reducible refine isWKr (id := 4) ?_); refine WK_drawAt 4 [[],[0],[],[2],[2,3],[2,3,4],[0,1,2,3,4,5],[0,1,2,3,4,5,6],[0,1,2,3,4,5,6,7],[0,1,2,3,4,5,6,7,8],[0,1,2,3,4,5,6,7],[0,1,2,3,4,5,6,7,10],[0,1,2,3,4,5,6,7,10,11],[0,1,2,3,4,5,6,7,10,11,12],[0,1,2,3,4,5,6,7,8,9,10,11,12,13],[0,1,2,3,4,5,6,7,8,9,10,11,12,13,14]] (by kernel_rfl) ?_) | ((with_reducible refine isWKr (id := 15) ?_); refine WK_drawAt 15 [[],[0],[],[2],[2,3],[],[5],[5,6],[5,6,7],[5,6,7,8],[2,3,4,5,6,7,8,9],[0,1,2,3,4,5,6,7,8,9,10],[0,1,2,3,4,5,6,7,8,9,10,11],[0,1,2,3,4,5,6,7,8,9,10,11,12]] (by kernel_rfl) ?_) | ((with_reducible refine And.intro ?_ ?_); first | (with_reducible rfl) | assumption | (simp only [go_sem]; done)))
    refine EK_again (n + 1) ?_ (by omega) (by omega)
    rw [jnW_succ la lb hn.1 hjn, flat_snoc, w1]
    exact Weak.keepN rfl (by simp [go_sem] <;> omega) (by simp [hx]) (by simp [go_sem, flat_encK.lts1, (flat_rowL .i64 3).lts, hlt, hlt2] <;> omega) (hw.app (by simp [go_sem, flat_encK.lts1, (flat_rowL .i64 3).lts, hlt, hlt2] <;> omega))
  have hnl : n = lb.length := by omega
  subst hnl
  rw [jnW_all]
  have hjl := jnL_len la lb
  have hjl2 := jnN_len la lb
  repeat (first | (simp only [go_sem, Int.reduceLT, Int.reduceLE, Int.reduceEq, Int.reduceToNat, hL, hL2, Int.not_lt.2 hc1]) | ((with_reducible refine And.intro ?_ ?_); omega) | ((with_reducible refine isSK ?_); first | (refine call_ret (l03Made_ok (L := jnN la lb) (Rd.own 1 rfl rfl rfl) hv2) (by simp only [go_sem, Int.reduceLT, Int.reduceLE, Int.reduceEq, Int.reduceToNat, hL, hL2, Int.not_lt.2 hc1]) ?_)) | ((with_reducible refine isMC ?_); first | (refine mcall_ret (l03Made_ok (L := jnN la lb) (Rd.own 1 rfl rfl rfl) hv2) (by simp only [go_sem, Int.reduceLT, Int.reduceLE, Int.reduceEq, Int.reduceToNat, hL, hL2, Int.not_lt.2 hc1]) (by simp only [go_sem, Int.reduceLT, Int.reduceLE, Int.reduceEq, Int.reduceToNat, hL, hL2, Int.not_lt.2 hc1]) ?_)) | ((with_reducible refine isWKr (id := 4) ?_); refine WK_drawAt 4 [[],[0],[],[2],[2,3],[2,3,4],[0,1,2,3,4,5],[0,1,2,3,4,5,6],[0,1,2,3,4,5,6,7],[0,1,2,3,4,5,6,7,8],[0,1,2,3,4,5,6,7],[0,1,2,3,4,5,6,7,10],[0,1,2,3,4,5,6,7,10,11],[0,1,2,3,4,5,6,7,10,11,12],[0,1,2,3,4,5,6,7,8,9,10,11,12,13],[0,1,2,3,4,5,6,7,8,9,10,11,12,13,14]] (by kernel_rfl) ?_) | ((with_reducible refine isWKr (id := 15) ?_); refine WK_drawAt 15 [[],[0],[],[2],[2,3],[],[5],[5,6],[5,6,7],[5,6,7,8],[2,3,4,5,6,7,8,9],[0,1,2,3,4,5,6,7,8,9,10],[0,1,2,3,4,5,6,7,8,9,10,11],[0,1,2,3,4,5,6,7,8,9,10,11,12]] (by kernel_rfl) ?_) | ((with_reducible refine And.intro ?_ ?_); first | (with_reducible rfl) | assumption | (simp only [go_sem]; done)))
  refine ret_one hq hw _ (.inl rfl) 2 rfl (of_eq_true (flat_encK.lts _ _)) (.t [.s H.length 0 (jnL la lb).length (.u 0), .v (.int .i64 0)]) (by simp [go_sem]) ?_
  simp [go_sem, conc, concs, upσ, Cap.val, jnL]
end Go.Proofs.YtcebmjajnbafoaaGreatDoor
namespace Go.Proofs.YtcebmjajnbafoaaGreatDoor
open Go Go.Sx
/-- Two tracks have the same place at a tick. -/
def sameA (l m : List (Nat → Int)) (t : Int) : Bool := decide (placeR l 0 t 1 = placeR m 0 t 1) && decide (placeR l 0 t 2 = placeR m 0 t 2)
theorem sameA_iff {l m : List (Nat → Int)} {t : Int} : sameA l m t = true ↔ placeR l 0 t 1 = placeR m 0 t 1 ∧ placeR l 0 t 2 = placeR m 0 t 2 := by unfold sameA; simp
def swB (l m : List (Nat → Int)) : Bool := (List.range 201).all fun n => sameA l m (n : Int)
def goB (l m : List (Nat → Int)) : Bool := (List.range (tkN l + 1)).all fun n => sameA l m (kAt l 0 0 + (n : Int))
theorem swB_iff {l m : List (Nat → Int)} : swB l m = true ↔ ∀ n : Nat, n < 201 → sameA l m (n : Int) = true := by unfold swB; simp
theorem goB_iff {l m : List (Nat → Int)} : goB l m = true ↔ ∀ n : Nat, n < tkN l + 1 → sameA l m (kAt l 0 0 + (n : Int)) = true := by unfold goB; simp
theorem swB_comm (l m : List (Nat → Int)) : swB l m = swB m l := by
  unfold swB; congr 1; funext n; unfold sameA; simp only [eq_comm]
theorem kn_zero {l : List (Nat → Int)} (hv : tkOk l = true) {t : Int} (h : t < kAt l 0 0) : kn l t = 0 := by
  have hlen := tkOk_len hv
  rw [kAt_at (by omega)] at h
  exact kn_at (by omega) (fun j _ hj => absurd hj (by omega)) fun _ => h
theorem kn_full {l : List (Nat → Int)} (hv : tkOk l = true) {t : Int} (h : kAt l (l.length - 1) 0 ≤ t) : kn l t = l.length := by
  have hlen := tkOk_len hv
  rw [kAt_at (by omega)] at h
  refine kn_at (Nat.le_refl _) (fun j hj _ => ?_) fun h => absurd h (by omega)
  by_cases e : j = l.length - 1
  · subst e; exact h
  · have := tkOk_lt hv (show j < l.length - 1 by omega) (by omega); omega
theorem place_low {l : List (Nat → Int)} (hv : tkOk l = true) {t : Int} (h : t < kAt l 0 0) (c : Nat) : placeR l 0 t c = kAt l 0 c := placeR_lo (kn_zero hv h)
theorem place_high {l : List (Nat → Int)} (hv : tkOk l = true) {t : Int} (h : kAt l (l.length - 1) 0 ≤ t) (c : Nat) : placeR l 0 t c = kAt l (l.length - 1) c := placeR_hi (kn_full hv h)
/-- Two tracks with the same ends go the same way at all ticks, if they do between the ends. -/
theorem sw_go {l m : List (Nat → Int)} (hl : tkOk l = true) (hm : tkOk m = true) (h0 : kAt m 0 = kAt l 0) (h1 : kAt m (m.length - 1) = kAt l (l.length - 1)) : swB l m = goB l m := by
  have hN := tkN_eq hl
  have hlen := tkOk_len hl
  have q0 := okK_iff.1 (tkOk_at hl (show 0 < l.length by omega)).1
  rw [← kAt_at (show 0 < l.length by omega)] at q0
  have q1 := okK_iff.1 (tkOk_at hl (show l.length - 1 < l.length by omega)).1
  rw [← kAt_at (show l.length - 1 < l.length by omega)] at q1
  rw [Bool.eq_iff_iff, swB_iff, goB_iff]
  constructor
  · intro h n hn
    have := h (kAt l 0 0 + n).toNat (by omega)
    rwa [show (((kAt l 0 0 + n).toNat : Nat) : Int) = kAt l 0 0 + n by omega] at this
  · intro h n hn
    rcases Int.lt_or_le (n : Int) (kAt l 0 0) with hlo | hlo
    · rw [sameA_iff, place_low hl hlo, place_low hl hlo, place_low hm (by rw [h0]; exact hlo), place_low hm (by rw [h0]; exact hlo), h0]
      exact ⟨rfl, rfl⟩
    rcases Int.lt_or_le (n : Int) (kAt l (l.length - 1) 0) with hhi | hhi
    · have := h (n - kAt l 0 0).toNat (by omega)
      rwa [show kAt l 0 0 + (((n - kAt l 0 0).toNat : Nat) : Int) = n by omega] at this
    · rw [sameA_iff, place_high hl hhi, place_high hl hhi, place_high hm (by rw [h1]; exact hhi), place_high hm (by rw [h1]; exact hhi), h1]
      exact ⟨rfl, rfl⟩
theorem erase_get {l : List (Nat → Int)} {i j : Nat} : kAt (l.eraseIdx i) j = if j < i then kAt l j else kAt l (j + 1) := by
  unfold kAt; rw [List.getElem?_eraseIdx]; split <;> rfl
theorem tkOk_erase {l : List (Nat → Int)} (hv : tkOk l = true) {i : Nat} (h1 : 1 ≤ i) (h2 : i + 1 < l.length) : tkOk (l.eraseIdx i) = true := by
  have hlen := tkOk_len hv
  have hel : (l.eraseIdx i).length = l.length - 1 := erase_len (by omega)
  unfold tkOk
  rw [Bool.and_eq_true, allN_iff, hel, inB_iff]
  refine ⟨fun j hj => ?_, by omega, by omega⟩
  unfold tkAt
  rw [Bool.and_eq_true, Bool.or_eq_true, decide_eq_true_eq, decide_eq_true_eq]
  rw [erase_get, erase_get]
  have hlt : ∀ a b : Nat, a < b → b < l.length → kAt l a 0 < kAt l b 0 := fun a b hab hb => by rw [kAt_at (by omega), kAt_at hb]; exact tkOk_lt hv hab hb
  have hok : ∀ a : Nat, a < l.length → okK (kAt l a) = true := fun a ha => by rw [kAt_at ha]; exact (tkOk_at hv ha).1
  constructor
  · split
    · exact hok _ (by omega)
    · exact hok _ (by omega)
  · by_cases e : j = 0
    · exact .inl e
    · right
      split <;> split <;> exact hlt _ _ (by omega) (by omega)
theorem erase_ends {l : List (Nat → Int)} {i : Nat} (h1 : 1 ≤ i) (h2 : i + 1 < l.length) : kAt (l.eraseIdx i) 0 = kAt l 0 ∧ kAt (l.eraseIdx i) ((l.eraseIdx i).length - 1) = kAt l (l.length - 1) := by
  have hel : (l.eraseIdx i).length = l.length - 1 := erase_len (by omega)
  rw [hel, erase_get, erase_get, if_pos (by omega), if_neg (by omega), show l.length - 1 - 1 + 1 = l.length - 1 by omega]
  exact ⟨rfl, rfl⟩
def thinN : Nat → List (Nat → Int) → Nat → List (Nat → Int)
  | 0, l, _ => l
  | f + 1, l, i => if i + 1 < l.length then (if goB l (l.eraseIdx i) = true then thinN f (l.eraseIdx i) i else thinN f l (i + 1)) else l
/-- A track without the keys that its way does not need, from key i on. -/
def thinF (l : List (Nat → Int)) (i : Nat) : List (Nat → Int) := thinN (l.length - i) l i
theorem thinF_end {l : List (Nat → Int)} {i : Nat} (h : ¬ i + 1 < l.length) : thinF l i = l := by
  unfold thinF
  cases l.length - i with
  | zero => rfl
  | succ n => rw [thinN, if_neg h]
theorem thinF_drop {l : List (Nat → Int)} {i : Nat} (h : i + 1 < l.length) (hg : goB l (l.eraseIdx i) = true) : thinF l i = thinF (l.eraseIdx i) i := by
  unfold thinF
  have hel : (l.eraseIdx i).length = l.length - 1 := erase_len (by omega)
  rw [show l.length - i = (l.length - i - 1) + 1 by omega, thinN, if_pos h, if_pos hg, hel]
  congr 1; omega
theorem thinF_keep {l : List (Nat → Int)} {i : Nat} (h : i + 1 < l.length) (hg : goB l (l.eraseIdx i) = false) : thinF l i = thinF l (i + 1) := by
  unfold thinF
  rw [show l.length - i = (l.length - i - 1) + 1 by omega, thinN, if_pos h, if_neg (by rw [hg]; decide)]
  congr 1
def rzF (a b : Nat) : List (Nat → Int) := if a = b then [] else [fun _ => 0]
theorem thinF_len {l : List (Nat → Int)} {i : Nat} : ∀ f, (thinN f l i).length ≤ l.length := by
  intro f
  induction f generalizing l i with
  | zero => exact Nat.le_refl _
  | succ f ih =>
    rw [thinN]
    split
    · split
      · exact Nat.le_trans ih (by rw [List.length_eraseIdx]; split <;> omega)
      · exact ih
    · exact Nat.le_refl _
end Go.Proofs.YtcebmjajnbafoaaGreatDoor
namespace Go.Proofs.YtcebmjajnbafoaaGreatDoor
open Go Go.Sx
/-- One thing is left out of a row; a thing of zeros comes behind. -/
theorem delTrack {H : List Blk} {i j : Nat} {l : List (Nat → Int)} {je : Int} (hb : H[i]? = some ⟨l.flatMap encK, 42, .own 3⟩) (hj : j < l.length) (hje : je = (j : Int) + 1) (hl : l.length ≤ 1000) :
    Cal Tryz.prog 43 [.s i 0 l.length (.u 0), .v (.int .i64 j), .v (.int .i64 je)] H fun u H' => u = .s i 0 (l.length - 1) (.i 0) ∧ H' = H.set i ⟨(l.eraseIdx j ++ [fun _ => 0]).flatMap encK, 42, .own 3⟩ := by
  subst hje
  have hlt := (List.getElem?_eq_some_iff.1 hb).1
  have hfl : (l.flatMap encK).length = l.length * 3 := flat_encK.flen l
  have e1 : ((j : Int) = (j : Int) + 1) = False := eq_false (by omega)
  have z0 : (0 : Int).toNat = 0 := rfl
  have tj : ((j : Int)).toNat = j := by omega
  have tj1 : ((j : Int) + 1).toNat = j + 1 := by omega
  have tl : ((l.length : Int)).toNat = l.length := by omega
  have hel := erase_len hj
  have hn0 : ((0 : Int) < 0) = False := eq_false (by omega)
  have hn1 : (0 < (j : Int) + 1) = True := eq_true (by omega)
  have hm1 : (((l.length - 1 : Nat) : Int)).toNat = l.length - 1 := by omega
  have hm2 : (((l.length - 1 : Nat) : Int) = (l.length : Int)) = False := eq_false (by omega)
  have hm3 : l.length - (l.length - 1) = 1 := by omega
  have hle : ((l.length : Int) ≤ ((l.length - 1 : Nat) : Int)) = False := eq_false (by omega)
  have hzz : ([.v (.int .i16 0), .v (.int .i8 0), .v (.int .i8 0)] : List V) = encK (fun _ => 0) := rfl
  refine cal_fn 30 mixed Tryz.func43 Tryz.ntmps43 Tryz.results43 rfl rfl rfl fun hw cx hx hq => ?_
  by_cases hlast : j + 1 = l.length
  · have e2 : ((j : Int) + 1 = (l.length : Int)) = True := eq_true (by omega)
    have hj0 : j + 0 = l.length - 1 := by omega
    obtain ⟨x, hx0⟩ := last_split (by omega) hlast
    have hwr0 : wr (l.flatMap encK) (j * 3) [] = l.flatMap encK := by unfold wr; simp
    have hcl : wr (l.flatMap encK) ((l.length - 1) * 3) (encK fun _ => 0) = (l.eraseIdx j ++ [fun _ => 0]).flatMap encK := by
      have := clr_wr (enc := encK) (z := 3) (l := l.eraseIdx j) (x := x) (y := fun _ => 0) (o := (l.length - 1) * 3) flat_encK.len (by rw [hel])
      rwa [← hx0] at this
    repeat (first | (simp only [go_sem, Int.reduceLT, Int.reduceLE, Int.reduceEq, Int.reduceToNat, hb, hlt, hfl, e1, z0, tj, tj1, tl, hn0, hn1, Nat.zero_mul, Nat.zero_add, Nat.sub_zero, List.length_set, List.getElem?_set, if_true, e2, hwr0, hj0, hm1, hm2, hm3, hle, zerosL_one, hzz, ite_self, hcl]) | ((with_reducible refine And.intro ?_ ?_); omega) | ((with_reducible refine isWKr (id := 5) ?_); refine WK_drawUp 5 [[],[],[0,1],[],[],[3,4],[0,1,2,3,4,5],[0,1,2,3,4,5,6]] 6 (by kernel_rfl) ?_; dsimp only [List.take, List.drop]) | ((with_reducible refine And.intro ?_ ?_); first | (with_reducible rfl) | assumption | (simp only [go_sem]; done)))
    refine ret_at hq _ (.inl rfl) (by simp) ?_
    simp [go_sem]
  · have e2 : ((j : Int) + 1 = (l.length : Int)) = False := eq_false (by omega)
    have hj0 : j + (l.length - (j + 1)) = l.length - 1 := by omega
    obtain ⟨x, hx0⟩ := del_wr (enc := encK) flat_encK.len (l := l) (j := j) (by omega) rfl
    have hcl : wr ((l.eraseIdx j ++ [x]).flatMap encK) ((l.length - 1) * 3) (encK fun _ => 0) = (l.eraseIdx j ++ [fun _ => 0]).flatMap encK := clr_wr flat_encK.len (by rw [hel])
    have hfl2 : ((l.eraseIdx j ++ [x]).flatMap encK).length = l.length * 3 := by rw [flat_encK.flen]; congr 1; simp [hel]; omega
    repeat (first | (simp only [go_sem, Int.reduceLT, Int.reduceLE, Int.reduceEq, Int.reduceToNat, hb, hlt, hfl, e1, z0, tj, tj1, tl, hn0, hn1, Nat.zero_mul, Nat.zero_add, Nat.sub_zero, List.length_set, List.getElem?_set, if_true, e2, hx0, hj0, hfl2, hm1, hm2, hm3, hle, zerosL_one, hzz, ite_self, hcl]) | ((with_reducible refine And.intro ?_ ?_); omega) | ((with_reducible refine isWKr (id := 5) ?_); refine WK_drawUp 5 [[],[],[0,1],[],[],[3,4],[0,1,2,3,4,5],[0,1,2,3,4,5,6]] 6 (by kernel_rfl) ?_; dsimp only [List.take, List.drop]) | ((with_reducible refine And.intro ?_ ?_); first | (with_reducible rfl) | assumption | (simp only [go_sem]; done)))
    refine ret_at hq _ (.inl rfl) (by simp) ?_
    simp [go_sem]
end Go.Proofs.YtcebmjajnbafoaaGreatDoor
