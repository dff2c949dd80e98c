/- Contracts of functions of the translated program, by the walk. -/
import Derived.Test.YtpjimhkblldhaaaK21
set_option linter.unusedVariables false
set_option linter.unusedSimpArgs false
set_option maxRecDepth 8000
set_option maxHeartbeats 4000000
namespace Go.Proofs.Ytpjimhkblldhaaa
open Go Go.Sx
def jnG (la lb : List (Nat → Int)) (a : Nat → Int) : Nat → Int := keyF (a 0 + jnD la lb) (a 1) (a 2)
def jnT (la lb : List (Nat → Int)) (n : Nat) : List (Nat → Int) := la ++ ((lb.take n).drop 1).map (jnG la lb)
theorem jnT_one (la lb : List (Nat → Int)) : jnT la lb 1 = la := by
  unfold jnT
  rw [List.drop_eq_nil_of_le (by simp; omega)]; simp
theorem jnT_all (la lb : List (Nat → Int)) : jnT la lb lb.length = jnN la lb := by unfold jnT jnN jnG; rw [List.take_length]
theorem jnT_succ (la lb : List (Nat → Int)) {n : Nat} (h1 : 1 ≤ n) (h : n < lb.length) : jnT la lb (n + 1) = jnT la lb n ++ [jnG la lb lb[n]] := by
  unfold jnT
  rw [List.take_succ_eq_append_getElem h, List.drop_append_of_le_length (by rw [List.length_take]; omega), List.map_append, List.append_assoc]; rfl
theorem jnT_len (la lb : List (Nat → Int)) {n : Nat} (h1 : 1 ≤ n) (h : n ≤ lb.length) : (jnT la lb n).length = la.length + (n - 1) := by
  unfold jnT; rw [List.length_append, List.length_map, List.length_drop, List.length_take]; omega
theorem specJoinTracks_err {H : List Blk} {v w : V} {la lb : List (Nat → Int)} (h : Rd H v encK la) (h2 : Rd H w encK lb) (hK : ∀ a ∈ la, KyW a) (hK2 : ∀ a ∈ lb, KyW a) (hl : la.length ≤ 1000000) (hl2 : lb.length ≤ 1000000) (hc : jnC la lb ≠ 0) :
    Cal Try.prog 18 [v, w] H fun u H' => u = .t [.s H.length 0 0 (.u 0), .v (.int .i64 (jnC la lb))] ∧ H' = H ++ [⟨[], 55, .own 3⟩] := by
  have hsol := h.solid
  have hsol2 := h2.solid
  have hL := h.lenV (P := Try.prog) slTy25
  have hL2 := h2.lenV (P := Try.prog) slTy25
  refine cal_fn 88 mixed Try.func18 Try.ntmps18 Try.results18 rfl rfl rfl fun hw cx hx hq => ?_
  cases e1 : tkOk la
  · have hC : jnC la lb = 1 := by unfold jnC; rw [e1]; rfl
    repeat (first | (simp only [go_sem, Int.reduceLT, Int.reduceLE, Int.reduceEq, Int.reduceToNat, hsol, hsol2, e1]) | ((with_reducible refine And.intro ?_ ?_); omega) | ((with_reducible refine isSK ?_); first | (refine call_ret (l03Ok h hK hl) (by simp only [go_sem, Int.reduceLT, Int.reduceLE, Int.reduceEq, Int.reduceToNat, hsol, hsol2, e1]) ?_) | (refine call_ret (l03Ok h2 hK2 hl2) (by simp only [go_sem, Int.reduceLT, Int.reduceLE, Int.reduceEq, Int.reduceToNat, hsol, hsol2, e1]) ?_)) | ((with_reducible refine isMC ?_); first | (refine mcall_ret (l03Ok h hK hl) (by simp only [go_sem, Int.reduceLT, Int.reduceLE, Int.reduceEq, Int.reduceToNat, hsol, hsol2, e1]) (by simp only [go_sem, Int.reduceLT, Int.reduceLE, Int.reduceEq, Int.reduceToNat, hsol, hsol2, e1]) ?_) | (refine mcall_ret (l03Ok h2 hK2 hl2) (by simp only [go_sem, Int.reduceLT, Int.reduceLE, Int.reduceEq, Int.reduceToNat, hsol, hsol2, e1]) (by simp only [go_sem, Int.reduceLT, Int.reduceLE, Int.reduceEq, Int.reduceToNat, hsol, hsol2, e1]) ?_)) | ((with_reducible refine isWKr (id := 4) ?_); refine WK_drawAt 4 [[],[0],[],[2],[2,3],[2,3,4],[0,1,2,3,4,5],[0,1,2,3,4,5,6],[0,1,2,3,4,5,6,7],[0,1,2,3,4,5,6,7,8],[0,1,2,3,4,5,6,7],[0,1,2,3,4,5,6,7,10],[0,1,2,3,4,5,6,7,10,11],[0,1,2,3,4,5,6,7,10,11,12],[0,1,2,3,4,5,6,7,8,9,10,11,12,13],[0,1,2,3,4,5,6,7,8,9,10,11,12,13,14]] (by kernel_rfl) ?_) | ((with_reducible refine isWKr (id := 15) ?_); refine WK_drawAt 15 [[],[0],[],[2],[2,3],[],[5],[5,6],[5,6,7],[5,6,7,8],[2,3,4,5,6,7,8,9],[0,1,2,3,4,5,6,7,8,9,10],[0,1,2,3,4,5,6,7,8,9,10,11],[0,1,2,3,4,5,6,7,8,9,10,11,12]] (by kernel_rfl) ?_) | ((with_reducible refine And.intro ?_ ?_); first | (with_reducible rfl) | assumption | (simp only [go_sem]; done)))
    refine ret_at hq _ (.inl rfl) (by simp) ?_
    simp [go_sem, hC]
  cases e2 : tkOk lb
  · have hC : jnC la lb = 1 := by unfold jnC; rw [e1, e2]; rfl
    repeat (first | (simp only [go_sem, Int.reduceLT, Int.reduceLE, Int.reduceEq, Int.reduceToNat, hsol, hsol2, e1, e2]) | ((with_reducible refine And.intro ?_ ?_); omega) | ((with_reducible refine isSK ?_); first | (refine call_ret (l03Ok h hK hl) (by simp only [go_sem, Int.reduceLT, Int.reduceLE, Int.reduceEq, Int.reduceToNat, hsol, hsol2, e1, e2]) ?_) | (refine call_ret (l03Ok h2 hK2 hl2) (by simp only [go_sem, Int.reduceLT, Int.reduceLE, Int.reduceEq, Int.reduceToNat, hsol, hsol2, e1, e2]) ?_)) | ((with_reducible refine isMC ?_); first | (refine mcall_ret (l03Ok h hK hl) (by simp only [go_sem, Int.reduceLT, Int.reduceLE, Int.reduceEq, Int.reduceToNat, hsol, hsol2, e1, e2]) (by simp only [go_sem, Int.reduceLT, Int.reduceLE, Int.reduceEq, Int.reduceToNat, hsol, hsol2, e1, e2]) ?_) | (refine mcall_ret (l03Ok h2 hK2 hl2) (by simp only [go_sem, Int.reduceLT, Int.reduceLE, Int.reduceEq, Int.reduceToNat, hsol, hsol2, e1, e2]) (by simp only [go_sem, Int.reduceLT, Int.reduceLE, Int.reduceEq, Int.reduceToNat, hsol, hsol2, e1, e2]) ?_)) | ((with_reducible refine isWKr (id := 4) ?_); refine WK_drawAt 4 [[],[0],[],[2],[2,3],[2,3,4],[0,1,2,3,4,5],[0,1,2,3,4,5,6],[0,1,2,3,4,5,6,7],[0,1,2,3,4,5,6,7,8],[0,1,2,3,4,5,6,7],[0,1,2,3,4,5,6,7,10],[0,1,2,3,4,5,6,7,10,11],[0,1,2,3,4,5,6,7,10,11,12],[0,1,2,3,4,5,6,7,8,9,10,11,12,13],[0,1,2,3,4,5,6,7,8,9,10,11,12,13,14]] (by kernel_rfl) ?_) | ((with_reducible refine isWKr (id := 15) ?_); refine WK_drawAt 15 [[],[0],[],[2],[2,3],[],[5],[5,6],[5,6,7],[5,6,7,8],[2,3,4,5,6,7,8,9],[0,1,2,3,4,5,6,7,8,9,10],[0,1,2,3,4,5,6,7,8,9,10,11],[0,1,2,3,4,5,6,7,8,9,10,11,12]] (by kernel_rfl) ?_) | ((with_reducible refine And.intro ?_ ?_); first | (with_reducible rfl) | assumption | (simp only [go_sem]; done)))
    refine ret_at hq _ (.inl rfl) (by simp) ?_
    simp [go_sem, hC]
  have hlen := tkOk_len e1
  have hlen2 := tkOk_len e2
  obtain ⟨m, hm⟩ : ∃ m, la.length = m + 1 := ⟨la.length - 1, by omega⟩
  have hjm : m < la.length := by omega
  have hj0 : 0 < lb.length := by omega
  have h0 := h
  have h20 := h2
  obtain ⟨i, off, c, b, rfl, hat, hfit⟩ := h.full (by omega)
  have hlt := hat.lt
  have g2 : ∀ L : List Blk, (H ++ L)[i]? = some b := fun L => get_app hat.get
  obtain ⟨i2, off2, c2, b2, rfl, hat2, hfit2⟩ := h2.full (by omega)
  have hlt2 := hat2.lt
  have g22 : ∀ L : List Blk, (H ++ L)[i2]? = some b2 := fun L => get_app hat2.get
  have tm : ((la.length : Int) - 1).toNat = m := by omega
  have pe : At H i (off + m * 3) (rowK kK 3 la[m]) b := hat.el encK_len hjm
  have pf := hat.fits encK 3 encK_len hjm (by omega)
  have pa := hat.elem encK 3 encK_len hjm
  have pk := okK_iff.1 (tkOk_at e1 hjm).1
  have qf : off2 + 3 ≤ b2.cells.length := by simpa using hat2.fits encK 3 encK_len hj0 (by omega)
  have qe : At H i2 off2 (rowK kK 3 lb[0]) b2 := by
    have := hat2.el encK_len hj0
    rw [Nat.zero_mul, Nat.add_zero] at this; exact this
  have q0 : cel b2.cells off2 = .v (.int .i16 (lb[0] 0)) := qe.celK (j := 0) (by omega)
  have q1 : cel b2.cells (off2 + 1) = .v (.int .i8 (lb[0] 1)) := qe.celK (j := 1) (by omega)
  have q2 : cel b2.cells (off2 + 2) = .v (.int .i8 (lb[0] 2)) := qe.celK (j := 2) (by omega)
  have qk := okK_iff.1 (tkOk_at e2 hj0).1
  have ka : ∀ x, kAt la (la.length - 1) x = la[m] x := fun x => by rw [show la.length - 1 = m by omega, kAt_at hjm]
  have kb : ∀ x, kAt lb 0 x = lb[0] x := fun x => by rw [kAt_at hj0]
  have hS : jnS la lb = (decide (la[m] 1 = lb[0] 1) && decide (la[m] 2 = lb[0] 2)) := by unfold jnS; rw [ka, ka, kb, kb]
  have hD : jnD la lb = la[m] 0 - lb[0] 0 := by unfold jnD; rw [ka, kb]
  have hDr := jnD_r e1 e2
  have s3 : ∀ f : Nat → Int, seg (encK f) 0 3 = encK f := fun f => rfl
  by_cases s1 : la[m] 1 = lb[0] 1
  case neg =>
    have hC : jnC la lb = 4 := by unfold jnC; rw [e1, e2, hS, decide_eq_false s1]; rfl
    have b1 : (la[m] 1 = lb[0] 1) = False := eq_false s1
    repeat (first | (simp only [go_sem, Int.reduceLT, Int.reduceLE, Int.reduceEq, Int.reduceToNat, celK0, celK1, celK2, encK_len, hat.get, g2, hat.live, hlt, hat2.get, g22, hat2.live, hlt2, tm, pf, pa, qf, q0, q1, q2, s3, hL, e1, e2, b1]) | ((with_reducible refine And.intro ?_ ?_); omega) | ((with_reducible refine isSK ?_); first | (refine call_ret (l03Ok h0 hK hl) (by simp only [go_sem, Int.reduceLT, Int.reduceLE, Int.reduceEq, Int.reduceToNat, celK0, celK1, celK2, encK_len, hat.get, g2, hat.live, hlt, hat2.get, g22, hat2.live, hlt2, tm, pf, pa, qf, q0, q1, q2, s3, hL, e1, e2, b1]) ?_) | (refine call_ret (l03Ok h20 hK2 hl2) (by simp only [go_sem, Int.reduceLT, Int.reduceLE, Int.reduceEq, Int.reduceToNat, celK0, celK1, celK2, encK_len, hat.get, g2, hat.live, hlt, hat2.get, g22, hat2.live, hlt2, tm, pf, pa, qf, q0, q1, q2, s3, hL, e1, e2, b1]) ?_)) | ((with_reducible refine isMC ?_); first | (refine mcall_ret (l03Ok h0 hK hl) (by simp only [go_sem, Int.reduceLT, Int.reduceLE, Int.reduceEq, Int.reduceToNat, celK0, celK1, celK2, encK_len, hat.get, g2, hat.live, hlt, hat2.get, g22, hat2.live, hlt2, tm, pf, pa, qf, q0, q1, q2, s3, hL, e1, e2, b1]) (by simp only [go_sem, Int.reduceLT, Int.reduceLE, Int.reduceEq, Int.reduceToNat, celK0, celK1, celK2, encK_len, hat.get, g2, hat.live, hlt, hat2.get, g22, hat2.live, hlt2, tm, pf, pa, qf, q0, q1, q2, s3, hL, e1, e2, b1]) ?_) | (refine mcall_ret (l03Ok h20 hK2 hl2) (by simp only [go_sem, Int.reduceLT, Int.reduceLE, Int.reduceEq, Int.reduceToNat, celK0, celK1, celK2, encK_len, hat.get, g2, hat.live, hlt, hat2.get, g22, hat2.live, hlt2, tm, pf, pa, qf, q0, q1, q2, s3, hL, e1, e2, b1]) (by simp only [go_sem, Int.reduceLT, Int.reduceLE, Int.reduceEq, Int.reduceToNat, celK0, celK1, celK2, encK_len, hat.get, g2, hat.live, hlt, hat2.get, g22, hat2.live, hlt2, tm, pf, pa, qf, q0, q1, q2, s3, hL, e1, e2, b1]) ?_)) | ((with_reducible refine isWKr (id := 4) ?_); refine WK_drawAt 4 [[],[0],[],[2],[2,3],[2,3,4],[0,1,2,3,4,5],[0,1,2,3,4,5,6],[0,1,2,3,4,5,6,7],[0,1,2,3,4,5,6,7,8],[0,1,2,3,4,5,6,7],[0,1,2,3,4,5,6,7,10],[0,1,2,3,4,5,6,7,10,11],[0,1,2,3,4,5,6,7,10,11,12],[0,1,2,3,4,5,6,7,8,9,10,11,12,13],[0,1,2,3,4,5,6,7,8,9,10,11,12,13,14]] (by kernel_rfl) ?_) | ((with_reducible refine isWKr (id := 15) ?_); refine WK_drawAt 15 [[],[0],[],[2],[2,3],[],[5],[5,6],[5,6,7],[5,6,7,8],[2,3,4,5,6,7,8,9],[0,1,2,3,4,5,6,7,8,9,10],[0,1,2,3,4,5,6,7,8,9,10,11],[0,1,2,3,4,5,6,7,8,9,10,11,12]] (by kernel_rfl) ?_) | ((with_reducible refine And.intro ?_ ?_); first | (with_reducible rfl) | assumption | (simp only [go_sem]; done)))
    refine ret_one hq hw _ (.inl rfl) 1 rfl (by simp [go_sem]) (.t [.s H.length 0 0 (.u 0), .v (.int .i64 4)]) (by simp [go_sem]) ?_
    simp [go_sem, conc, concs, upσ, Cap.val, hC]
  by_cases s2 : la[m] 2 = lb[0] 2
  case neg =>
    have hC : jnC la lb = 4 := by unfold jnC; rw [e1, e2, hS, decide_eq_true s1, decide_eq_false s2]; rfl
    have b1 : (la[m] 1 = lb[0] 1) = True := eq_true s1
    have b2' : (la[m] 2 = lb[0] 2) = False := eq_false s2
    repeat (first | (simp only [go_sem, Int.reduceLT, Int.reduceLE, Int.reduceEq, Int.reduceToNat, celK0, celK1, celK2, encK_len, hat.get, g2, hat.live, hlt, hat2.get, g22, hat2.live, hlt2, tm, pf, pa, qf, q0, q1, q2, s3, hL, e1, e2, b1, b2']) | ((with_reducible refine And.intro ?_ ?_); omega) | ((with_reducible refine isSK ?_); first | (refine call_ret (l03Ok h0 hK hl) (by simp only [go_sem, Int.reduceLT, Int.reduceLE, Int.reduceEq, Int.reduceToNat, celK0, celK1, celK2, encK_len, hat.get, g2, hat.live, hlt, hat2.get, g22, hat2.live, hlt2, tm, pf, pa, qf, q0, q1, q2, s3, hL, e1, e2, b1, b2']) ?_) | (refine call_ret (l03Ok h20 hK2 hl2) (by simp only [go_sem, Int.reduceLT, Int.reduceLE, Int.reduceEq, Int.reduceToNat, celK0, celK1, celK2, encK_len, hat.get, g2, hat.live, hlt, hat2.get, g22, hat2.live, hlt2, tm, pf, pa, qf, q0, q1, q2, s3, hL, e1, e2, b1, b2']) ?_)) | ((with_reducible refine isMC ?_); first | (refine mcall_ret (l03Ok h0 hK hl) (by simp only [go_sem, Int.reduceLT, Int.reduceLE, Int.reduceEq, Int.reduceToNat, celK0, celK1, celK2, encK_len, hat.get, g2, hat.live, hlt, hat2.get, g22, hat2.live, hlt2, tm, pf, pa, qf, q0, q1, q2, s3, hL, e1, e2, b1, b2']) (by simp only [go_sem, Int.reduceLT, Int.reduceLE, Int.reduceEq, Int.reduceToNat, celK0, celK1, celK2, encK_len, hat.get, g2, hat.live, hlt, hat2.get, g22, hat2.live, hlt2, tm, pf, pa, qf, q0, q1, q2, s3, hL, e1, e2, b1, b2']) ?_) | (refine mcall_ret (l03Ok h20 hK2 hl2) (by simp only [go_sem, Int.reduceLT, Int.reduceLE, Int.reduceEq, Int.reduceToNat, celK0, celK1, celK2, encK_len, hat.get, g2, hat.live, hlt, hat2.get, g22, hat2.live, hlt2, tm, pf, pa, qf, q0, q1, q2, s3, hL, e1, e2, b1, b2']) (by simp only [go_sem, Int.reduceLT, Int.reduceLE, Int.reduceEq, Int.reduceToNat, celK0, celK1, celK2, encK_len, hat.get, g2, hat.live, hlt, hat2.get, g22, hat2.live, hlt2, tm, pf, pa, qf, q0, q1, q2, s3, hL, e1, e2, b1, b2']) ?_)) | ((with_reducible refine isWKr (id := 4) ?_); refine WK_drawAt 4 [[],[0],[],[2],[2,3],[2,3,4],[0,1,2,3,4,5],[0,1,2,3,4,5,6],[0,1,2,3,4,5,6,7],[0,1,2,3,4,5,6,7,8],[0,1,2,3,4,5,6,7],[0,1,2,3,4,5,6,7,10],[0,1,2,3,4,5,6,7,10,11],[0,1,2,3,4,5,6,7,10,11,12],[0,1,2,3,4,5,6,7,8,9,10,11,12,13],[0,1,2,3,4,5,6,7,8,9,10,11,12,13,14]] (by kernel_rfl) ?_) | ((with_reducible refine isWKr (id := 15) ?_); refine WK_drawAt 15 [[],[0],[],[2],[2,3],[],[5],[5,6],[5,6,7],[5,6,7,8],[2,3,4,5,6,7,8,9],[0,1,2,3,4,5,6,7,8,9,10],[0,1,2,3,4,5,6,7,8,9,10,11],[0,1,2,3,4,5,6,7,8,9,10,11,12]] (by kernel_rfl) ?_) | ((with_reducible refine And.intro ?_ ?_); first | (with_reducible rfl) | assumption | (simp only [go_sem]; done)))
    refine ret_one hq hw _ (.inl rfl) 1 rfl (by simp [go_sem]) (.t [.s H.length 0 0 (.u 0), .v (.int .i64 4)]) (by simp [go_sem]) ?_
    simp [go_sem, conc, concs, upσ, Cap.val, hC]
  have b1 : (la[m] 1 = lb[0] 1) = True := eq_true s1
  have b2' : (la[m] 2 = lb[0] 2) = True := eq_true s2
  have hS1 : jnS la lb = true := by rw [hS, decide_eq_true s1, decide_eq_true s2]; rfl
  have hv2 : tkOk (jnL la lb) = false := by
    cases e3 : tkOk (jnL la lb)
    · rfl
    · exact absurd (by unfold jnC; rw [e1, e2, hS1, e3]; rfl) hc
  have hC : jnC la lb = 3 := by unfold jnC; rw [e1, e2, hS1, hv2]; rfl
  have hokA : ∀ a ∈ la, okK a = true := fun a ha => by
    obtain ⟨j, hj, rfl⟩ := List.mem_iff_getElem.1 ha
    exact (tkOk_at e1 hj).1
  have hokB : ∀ a ∈ lb, okK a = true := fun a ha => by
    obtain ⟨j, hj, rfl⟩ := List.mem_iff_getElem.1 ha
    exact (tkOk_at e2 hj).1
  repeat (first | (simp only [go_sem, Int.reduceLT, Int.reduceLE, Int.reduceEq, Int.reduceToNat, celK0, celK1, celK2, encK_len, hat.get, g2, hat.live, hlt, hat2.get, g22, hat2.live, hlt2, tm, pf, pa, qf, q0, q1, q2, s3, hL, hL2, e1, e2, b1, b2']) | ((with_reducible refine And.intro ?_ ?_); omega) | ((with_reducible refine isSK ?_); first | (refine call_ret (l03Ok h0 hK hl) (by simp only [go_sem, Int.reduceLT, Int.reduceLE, Int.reduceEq, Int.reduceToNat, celK0, celK1, celK2, encK_len, hat.get, g2, hat.live, hlt, hat2.get, g22, hat2.live, hlt2, tm, pf, pa, qf, q0, q1, q2, s3, hL, hL2, e1, e2, b1, b2']) ?_) | (refine call_ret (l03Ok h20 hK2 hl2) (by simp only [go_sem, Int.reduceLT, Int.reduceLE, Int.reduceEq, Int.reduceToNat, celK0, celK1, celK2, encK_len, hat.get, g2, hat.live, hlt, hat2.get, g22, hat2.live, hlt2, tm, pf, pa, qf, q0, q1, q2, s3, hL, hL2, e1, e2, b1, b2']) ?_)) | ((with_reducible refine isMC ?_); first | (refine mcall_ret (l03Ok h0 hK hl) (by simp only [go_sem, Int.reduceLT, Int.reduceLE, Int.reduceEq, Int.reduceToNat, celK0, celK1, celK2, encK_len, hat.get, g2, hat.live, hlt, hat2.get, g22, hat2.live, hlt2, tm, pf, pa, qf, q0, q1, q2, s3, hL, hL2, e1, e2, b1, b2']) (by simp only [go_sem, Int.reduceLT, Int.reduceLE, Int.reduceEq, Int.reduceToNat, celK0, celK1, celK2, encK_len, hat.get, g2, hat.live, hlt, hat2.get, g22, hat2.live, hlt2, tm, pf, pa, qf, q0, q1, q2, s3, hL, hL2, e1, e2, b1, b2']) ?_) | (refine mcall_ret (l03Ok h20 hK2 hl2) (by simp only [go_sem, Int.reduceLT, Int.reduceLE, Int.reduceEq, Int.reduceToNat, celK0, celK1, celK2, encK_len, hat.get, g2, hat.live, hlt, hat2.get, g22, hat2.live, hlt2, tm, pf, pa, qf, q0, q1, q2, s3, hL, hL2, e1, e2, b1, b2']) (by simp only [go_sem, Int.reduceLT, Int.reduceLE, Int.reduceEq, Int.reduceToNat, celK0, celK1, celK2, encK_len, hat.get, g2, hat.live, hlt, hat2.get, g22, hat2.live, hlt2, tm, pf, pa, qf, q0, q1, q2, s3, hL, hL2, e1, e2, b1, b2']) ?_)) | ((with_reducible refine isWKr (id := 4) ?_); refine WK_drawAt 4 [[],[0],[],[2],[2,3],[2,3,4],[0,1,2,3,4,5],[0,1,2,3,4,5,6],[0,1,2,3,4,5,6,7],[0,1,2,3,4,5,6,7,8],[0,1,2,3,4,5,6,7],[0,1,2,3,4,5,6,7,10],[0,1,2,3,4,5,6,7,10,11],[0,1,2,3,4,5,6,7,10,11,12],[0,1,2,3,4,5,6,7,8,9,10,11,12,13],[0,1,2,3,4,5,6,7,8,9,10,11,12,13,14]] (by kernel_rfl) ?_) | ((with_reducible refine isWKr (id := 15) ?_); refine WK_drawAt 15 [[],[0],[],[2],[2,3],[],[5],[5,6],[5,6,7],[5,6,7,8],[2,3,4,5,6,7,8,9],[0,1,2,3,4,5,6,7,8,9,10],[0,1,2,3,4,5,6,7,8,9,10,11],[0,1,2,3,4,5,6,7,8,9,10,11,12]] (by kernel_rfl) ?_) | ((with_reducible refine And.intro ?_ ?_); first | (with_reducible rfl) | assumption | (simp only [go_sem]; done)))
  refine WK_for (fun n : Nat => ⟨[.s i off la.length c, .s i2 off2 lb.length c2, .any, .any, .any, .any, .p H.length 0, .s (H.length + 1) 0 n (.u 0), .v (.int .i64 n)] ++ junk 81, H ++ [⟨encK la[m], 55, .fix⟩, ⟨(la.take n).flatMap (rowL .i64 3), 50, .own 3⟩]⟩) (fun n => n ≤ la.length) (fun n => la.length - n) 0 ?_ ?_ fun n hn => ?_
  · exact Weak.slots (by simp [go_sem])
  · omega
  rcases Int.lt_or_le (n : Int) la.length with hc1 | hc1
  · have hjn : n < la.length := by omega
    have xa := hat.elem encK 3 encK_len hjn
    have xf := hat.fits encK 3 encK_len hjn (by omega)
    have hn1 : norefH (H.length + 1) H := norefH_wf hw (by omega)
    have hn3 : norefs (H.length + 1) (encK la[m]) = true := flat_encK.norefs1 _ _
    have hd1 : (H.length + 1 + 1 = H.length + 1) = False := eq_false (by omega)
    have hd2 : (i = H.length + 1) = False := eq_false (by omega)
    have hd3 : (H.length + 2 = H.length + 1) = False := eq_false (by omega)
    have hd4 : (H.length = H.length + 1) = False := eq_false (by omega)
    have hd5 : (i2 = H.length + 1) = False := eq_false (by omega)
    have hd6 : (H.length + 3 = H.length + 1) = False := eq_false (by omega)
    have hd7 : (H.length + 4 = H.length + 1) = False := eq_false (by omega)
    have wz : ∀ f : Nat → Int, wr [.v (.int .i64 0), .v (.int .i64 0), .v (.int .i64 0)] 0 (rowL .i64 3 f) = rowL .i64 3 f := fun f => rfl
    have hn2 : norefs (H.length + 1) ((la.take n).flatMap (rowL .i64 3)) = true := (flat_rowL .i64 3).norefs _ _
    have hl2 : ((la.take n).flatMap (rowL .i64 3)).length = n * 3 := by rw [(flat_rowL .i64 3).flen, List.length_take, Nat.min_eq_left (by omega)]
    have q0' : cel (rowL .i64 3 la[n]) 0 = .v (.int .i64 (la[n] 0)) := rfl
    have q1' : cel (rowL .i64 3 la[n]) 1 = .v (.int .i64 (la[n] 1)) := rfl
    have q2' : cel (rowL .i64 3 la[n]) 2 = .v (.int .i64 (la[n] 2)) := rfl
    repeat (first | (simp only [go_sem, Int.reduceLT, Int.reduceLE, Int.reduceEq, Int.reduceToNat, hL, hL2, hc1, hat.get, g2, hat.live, hlt, xa, xf, q0', q1', q2', hn1, hn2, hn3, hl2, hd1, hd2, hd3, hd4, hd5, hd6, hd7, hx, wz, encK_len]) | ((with_reducible refine And.intro ?_ ?_); omega) | ((with_reducible refine isSK ?_); first | (refine call_ret (l03Numbers (okK_KyW (hokA _ (List.getElem_mem hjn)))) (by simp only [go_sem, Int.reduceLT, Int.reduceLE, Int.reduceEq, Int.reduceToNat, hL, hL2, hc1, hat.get, g2, hat.live, hlt, xa, xf, q0', q1', q2', hn1, hn2, hn3, hl2, hd1, hd2, hd3, hd4, hd5, hd6, hd7, hx, wz, encK_len]) ?_)) | ((with_reducible refine isMC ?_); first | (refine mcall_ret (l03Numbers (okK_KyW (hokA _ (List.getElem_mem hjn)))) (by simp only [go_sem, Int.reduceLT, Int.reduceLE, Int.reduceEq, Int.reduceToNat, hL, hL2, hc1, hat.get, g2, hat.live, hlt, xa, xf, q0', q1', q2', hn1, hn2, hn3, hl2, hd1, hd2, hd3, hd4, hd5, hd6, hd7, hx, wz, encK_len]) (by simp only [go_sem, Int.reduceLT, Int.reduceLE, Int.reduceEq, Int.reduceToNat, hL, hL2, hc1, hat.get, g2, hat.live, hlt, xa, xf, q0', q1', q2', hn1, hn2, hn3, hl2, hd1, hd2, hd3, hd4, hd5, hd6, hd7, hx, wz, encK_len]) ?_)) | ((with_reducible refine isWKr (id := 4) ?_); refine WK_drawAt 4 [[],[0],[],[2],[2,3],[2,3,4],[0,1,2,3,4,5],[0,1,2,3,4,5,6],[0,1,2,3,4,5,6,7],[0,1,2,3,4,5,6,7,8],[0,1,2,3,4,5,6,7],[0,1,2,3,4,5,6,7,10],[0,1,2,3,4,5,6,7,10,11],[0,1,2,3,4,5,6,7,10,11,12],[0,1,2,3,4,5,6,7,8,9,10,11,12,13],[0,1,2,3,4,5,6,7,8,9,10,11,12,13,14]] (by kernel_rfl) ?_) | ((with_reducible refine isWKr (id := 15) ?_); refine WK_drawAt 15 [[],[0],[],[2],[2,3],[],[5],[5,6],[5,6,7],[5,6,7,8],[2,3,4,5,6,7,8,9],[0,1,2,3,4,5,6,7,8,9,10],[0,1,2,3,4,5,6,7,8,9,10,11],[0,1,2,3,4,5,6,7,8,9,10,11,12]] (by kernel_rfl) ?_) | ((with_reducible refine And.intro ?_ ?_); first | (with_reducible rfl) | assumption | (simp only [go_sem]; done)))
    refine EK_again (n + 1) ?_ (by omega) (by omega)
    rw [List.take_succ_eq_append_getElem hjn, flat_snoc]
    exact Weak.keepN rfl (by simp [go_sem] <;> omega) (by simp [hx]) (by simp [go_sem, flat_encK.lts1, (flat_rowL .i64 3).lts, hlt] <;> omega) (hw.app (by simp [go_sem, flat_encK.lts1, (flat_rowL .i64 3).lts, hlt] <;> omega))
  have hnl : n = la.length := by omega
  subst hnl
  rw [List.take_length]
  repeat (first | (simp only [go_sem, Int.reduceLT, Int.reduceLE, Int.reduceEq, Int.reduceToNat, hL, Int.not_lt.2 hc1]) | ((with_reducible refine And.intro ?_ ?_); omega) | ((with_reducible refine isWKr (id := 4) ?_); refine WK_drawAt 4 [[],[0],[],[2],[2,3],[2,3,4],[0,1,2,3,4,5],[0,1,2,3,4,5,6],[0,1,2,3,4,5,6,7],[0,1,2,3,4,5,6,7,8],[0,1,2,3,4,5,6,7],[0,1,2,3,4,5,6,7,10],[0,1,2,3,4,5,6,7,10,11],[0,1,2,3,4,5,6,7,10,11,12],[0,1,2,3,4,5,6,7,8,9,10,11,12,13],[0,1,2,3,4,5,6,7,8,9,10,11,12,13,14]] (by kernel_rfl) ?_) | ((with_reducible refine isWKr (id := 15) ?_); refine WK_drawAt 15 [[],[0],[],[2],[2,3],[],[5],[5,6],[5,6,7],[5,6,7,8],[2,3,4,5,6,7,8,9],[0,1,2,3,4,5,6,7,8,9,10],[0,1,2,3,4,5,6,7,8,9,10,11],[0,1,2,3,4,5,6,7,8,9,10,11,12]] (by kernel_rfl) ?_) | ((with_reducible refine And.intro ?_ ?_); first | (with_reducible rfl) | assumption | (simp only [go_sem]; done)))
  clear hc1 hn
  refine WK_for (fun n : Nat => ⟨[.s i off la.length c, .s i2 off2 lb.length c2, .any, .any, .any, .any, .p H.length 0, .s (H.length + 1) 0 (jnT la lb n).length (.u 0), .any, .v (.int .i64 n)] ++ junk 80, H ++ [⟨encK la[m], 55, .fix⟩, ⟨(jnT la lb n).flatMap (rowL .i64 3), 50, .own 3⟩]⟩) (fun n => 1 ≤ n ∧ n ≤ lb.length) (fun n => lb.length - n) 1 ?_ ?_ fun n hn => ?_
  · rw [jnT_one]
    exact Weak.slots (by simp [go_sem])
  · omega
  rcases Int.lt_or_le (n : Int) lb.length with hc1 | hc1
  · have hjn : n < lb.length := by omega
    have xa := hat2.elem encK 3 encK_len hjn
    have xf := hat2.fits encK 3 encK_len hjn (by omega)
    have xk := okK_iff.1 (hokB _ (List.getElem_mem hjn))
    have hn1 : norefH (H.length + 1) H := norefH_wf hw (by omega)
    have hn3 : norefs (H.length + 1) (encK la[m]) = true := flat_encK.norefs1 _ _
    have hd1 : (H.length + 1 + 1 = H.length + 1) = False := eq_false (by omega)
    have hd2 : (i = H.length + 1) = False := eq_false (by omega)
    have hd3 : (H.length + 2 = H.length + 1) = False := eq_false (by omega)
    have hd4 : (H.length = H.length + 1) = False := eq_false (by omega)
    have hd5 : (i2 = H.length + 1) = False := eq_false (by omega)
    have hd6 : (H.length + 3 = H.length + 1) = False := eq_false (by omega)
    have hd7 : (H.length + 4 = H.length + 1) = False := eq_false (by omega)
    have wz : ∀ f : Nat → Int, wr [.v (.int .i64 0), .v (.int .i64 0), .v (.int .i64 0)] 0 (rowL .i64 3 f) = rowL .i64 3 f := fun f => rfl
    have hn2 : norefs (H.length + 1) ((jnT la lb n).flatMap (rowL .i64 3)) = true := (flat_rowL .i64 3).norefs _ _
    have hl2 : ((jnT la lb n).flatMap (rowL .i64 3)).length = (jnT la lb n).length * 3 := (flat_rowL .i64 3).flen _
    have hjl := jnT_len la lb hn.1 hn.2
    have q0' : cel (rowL .i64 3 lb[n]) 0 = .v (.int .i64 (lb[n] 0)) := rfl
    have q1' : cel (rowL .i64 3 lb[n]) 1 = .v (.int .i64 (lb[n] 1)) := rfl
    have q2' : cel (rowL .i64 3 lb[n]) 2 = .v (.int .i64 (lb[n] 2)) := rfl
    have w1 : rowL .i64 3 (jnG la lb lb[n]) = [.v (.int .i64 (lb[n] 0 + (la[m] 0 - lb[0] 0))), .v (.int .i64 (lb[n] 1)), .v (.int .i64 (lb[n] 2))] := by unfold jnG; rw [hD]; rfl
    have w2 : ∀ x : Int, wr (rowL .i64 3 lb[n]) 0 [.v (.int .i64 x)] = [.v (.int .i64 x), .v (.int .i64 (lb[n] 1)), .v (.int .i64 (lb[n] 2))] := fun x => rfl
    have w3 : ∀ p q r : V, seg [p, q, r] 0 3 = [p, q, r] := fun _ _ _ => rfl
    rw [hD] at hDr
    repeat (first | (simp only [go_sem, Int.reduceLT, Int.reduceLE, Int.reduceEq, Int.reduceToNat, hL, hL2, hc1, celK0, celK1, celK2, encK_len, hat.get, g2, hat.live, hlt, hat2.get, g22, hat2.live, hlt2, tm, pf, pa, qf, q0, q1, q2, s3, xa, xf, w2, w3, q0', q1', q2', hn1, hn2, hn3, hl2, hd1, hd2, hd3, hd4, hd5, hd6, hd7, hx, wz, encK_len]) | ((with_reducible refine And.intro ?_ ?_); omega) | ((with_reducible refine isSK ?_); first | (refine call_ret (l03Numbers (okK_KyW (hokB _ (List.getElem_mem hjn)))) (by simp only [go_sem, Int.reduceLT, Int.reduceLE, Int.reduceEq, Int.reduceToNat, hL, hL2, hc1, celK0, celK1, celK2, encK_len, hat.get, g2, hat.live, hlt, hat2.get, g22, hat2.live, hlt2, tm, pf, pa, qf, q0, q1, q2, s3, xa, xf, w2, w3, q0', q1', q2', hn1, hn2, hn3, hl2, hd1, hd2, hd3, hd4, hd5, hd6, hd7, hx, wz, encK_len]) ?_)) | ((with_reducible refine isMC ?_); first | (refine mcall_ret (l03Numbers (okK_KyW (hokB _ (List.getElem_mem hjn)))) (by simp only [go_sem, Int.reduceLT, Int.reduceLE, Int.reduceEq, Int.reduceToNat, hL, hL2, hc1, celK0, celK1, celK2, encK_len, hat.get, g2, hat.live, hlt, hat2.get, g22, hat2.live, hlt2, tm, pf, pa, qf, q0, q1, q2, s3, xa, xf, w2, w3, q0', q1', q2', hn1, hn2, hn3, hl2, hd1, hd2, hd3, hd4, hd5, hd6, hd7, hx, wz, encK_len]) (by simp only [go_sem, Int.reduceLT, Int.reduceLE, Int.reduceEq, Int.reduceToNat, hL, hL2, hc1, celK0, celK1, celK2, encK_len, hat.get, g2, hat.live, hlt, hat2.get, g22, hat2.live, hlt2, tm, pf, pa, qf, q0, q1, q2, s3, xa, xf, w2, w3, q0', q1', q2', hn1, hn2, hn3, hl2, hd1, hd2, hd3, hd4, hd5, hd6, hd7, hx, wz, encK_len]) ?_)) | ((with_reducible refine isWKr (id := 4) ?_); refine WK_drawAt 4 [[],[0],[],[2],[2,3],[2,3,4],[0,1,2,3,4,5],[0,1,2,3,4,5,6],[0,1,2,3,4,5,6,7],[0,1,2,3,4,5,6,7,8],[0,1,2,3,4,5,6,7],[0,1,2,3,4,5,6,7,10],[0,1,2,3,4,5,6,7,10,11],[0,1,2,3,4,5,6,7,10,11,12],[0,1,2,3,4,5,6,7,8,9,10,11,12,13],[0,1,2,3,4,5,6,7,8,9,10,11,12,13,14]] (by kernel_rfl) ?_) | ((with_reducible refine isWKr (id := 15) ?_); refine WK_drawAt 15 [[],[0],[],[2],[2,3],[],[5],[5,6],[5,6,7],[5,6,7,8],[2,3,4,5,6,7,8,9],[0,1,2,3,4,5,6,7,8,9,10],[0,1,2,3,4,5,6,7,8,9,10,11],[0,1,2,3,4,5,6,7,8,9,10,11,12]] (by kernel_rfl) ?_) | ((with_reducible refine And.intro ?_ ?_); first | (with_reducible rfl) | assumption | (simp only [go_sem]; done)))
    refine EK_again (n + 1) ?_ (by omega) (by omega)
    rw [jnT_succ la lb hn.1 hjn, flat_snoc, w1]
    exact Weak.keepN rfl (by simp [go_sem] <;> omega) (by simp [hx]) (by simp [go_sem, flat_encK.lts1, (flat_rowL .i64 3).lts, hlt, hlt2] <;> omega) (hw.app (by simp [go_sem, flat_encK.lts1, (flat_rowL .i64 3).lts, hlt, hlt2] <;> omega))
  have hnl : n = lb.length := by omega
  subst hnl
  rw [jnT_all]
  have hjl := jnL_len la lb
  have hjl2 := jnN_len la lb
  repeat (first | (simp only [go_sem, Int.reduceLT, Int.reduceLE, Int.reduceEq, Int.reduceToNat, hL, hL2, Int.not_lt.2 hc1]) | ((with_reducible refine And.intro ?_ ?_); omega) | ((with_reducible refine isSK ?_); first | (refine call_ret (l03Made_bad (L := jnN la lb) (Rd.own 1 rfl rfl rfl) (by omega) hv2) (by simp only [go_sem, Int.reduceLT, Int.reduceLE, Int.reduceEq, Int.reduceToNat, hL, hL2, Int.not_lt.2 hc1]) ?_)) | ((with_reducible refine isMC ?_); first | (refine mcall_ret (l03Made_bad (L := jnN la lb) (Rd.own 1 rfl rfl rfl) (by omega) hv2) (by simp only [go_sem, Int.reduceLT, Int.reduceLE, Int.reduceEq, Int.reduceToNat, hL, hL2, Int.not_lt.2 hc1]) (by simp only [go_sem, Int.reduceLT, Int.reduceLE, Int.reduceEq, Int.reduceToNat, hL, hL2, Int.not_lt.2 hc1]) ?_)) | ((with_reducible refine isWKr (id := 4) ?_); refine WK_drawAt 4 [[],[0],[],[2],[2,3],[2,3,4],[0,1,2,3,4,5],[0,1,2,3,4,5,6],[0,1,2,3,4,5,6,7],[0,1,2,3,4,5,6,7,8],[0,1,2,3,4,5,6,7],[0,1,2,3,4,5,6,7,10],[0,1,2,3,4,5,6,7,10,11],[0,1,2,3,4,5,6,7,10,11,12],[0,1,2,3,4,5,6,7,8,9,10,11,12,13],[0,1,2,3,4,5,6,7,8,9,10,11,12,13,14]] (by kernel_rfl) ?_) | ((with_reducible refine isWKr (id := 15) ?_); refine WK_drawAt 15 [[],[0],[],[2],[2,3],[],[5],[5,6],[5,6,7],[5,6,7,8],[2,3,4,5,6,7,8,9],[0,1,2,3,4,5,6,7,8,9,10],[0,1,2,3,4,5,6,7,8,9,10,11],[0,1,2,3,4,5,6,7,8,9,10,11,12]] (by kernel_rfl) ?_) | ((with_reducible refine And.intro ?_ ?_); first | (with_reducible rfl) | assumption | (simp only [go_sem]; done)))
  refine ret_one hq hw _ (.inl rfl) 2 rfl (by simp [go_sem]) (.t [.s H.length 0 0 (.u 0), .v (.int .i64 3)]) (by simp [go_sem]) ?_
  simp [go_sem, conc, concs, upσ, Cap.val, hC]
theorem specJoinTracks_ok {H : List Blk} {v w : V} {la lb : List (Nat → Int)} (h : Rd H v encK la) (h2 : Rd H w encK lb) (hK : ∀ a ∈ la, KyW a) (hK2 : ∀ a ∈ lb, KyW a) (hl : la.length ≤ 1000000) (hl2 : lb.length ≤ 1000000) (hc : jnC la lb = 0) :
    Cal Try.prog 18 [v, w] H fun u H' => u = .t [.s H.length 0 (jnL la lb).length (.u 0), .v (.int .i64 0)] ∧ H' = H ++ [⟨(jnL la lb).flatMap encK, 55, .own 3⟩] := by
  have hsol := h.solid
  have hsol2 := h2.solid
  have hL := h.lenV (P := Try.prog) slTy25
  have hL2 := h2.lenV (P := Try.prog) slTy25
  obtain ⟨e1, e2, hS1, hv2⟩ := jnC_ok hc
  refine cal_fn 88 mixed Try.func18 Try.ntmps18 Try.results18 rfl rfl rfl fun hw cx hx hq => ?_
  have hlen := tkOk_len e1
  have hlen2 := tkOk_len e2
  obtain ⟨m, hm⟩ : ∃ m, la.length = m + 1 := ⟨la.length - 1, by omega⟩
  have hjm : m < la.length := by omega
  have hj0 : 0 < lb.length := by omega
  have h0 := h
  have h20 := h2
  obtain ⟨i, off, c, b, rfl, hat, hfit⟩ := h.full (by omega)
  have hlt := hat.lt
  have g2 : ∀ L : List Blk, (H ++ L)[i]? = some b := fun L => get_app hat.get
  obtain ⟨i2, off2, c2, b2, rfl, hat2, hfit2⟩ := h2.full (by omega)
  have hlt2 := hat2.lt
  have g22 : ∀ L : List Blk, (H ++ L)[i2]? = some b2 := fun L => get_app hat2.get
  have tm : ((la.length : Int) - 1).toNat = m := by omega
  have pe : At H i (off + m * 3) (rowK kK 3 la[m]) b := hat.el encK_len hjm
  have pf := hat.fits encK 3 encK_len hjm (by omega)
  have pa := hat.elem encK 3 encK_len hjm
  have pk := okK_iff.1 (tkOk_at e1 hjm).1
  have qf : off2 + 3 ≤ b2.cells.length := by simpa using hat2.fits encK 3 encK_len hj0 (by omega)
  have qe : At H i2 off2 (rowK kK 3 lb[0]) b2 := by
    have := hat2.el encK_len hj0
    rw [Nat.zero_mul, Nat.add_zero] at this; exact this
  have q0 : cel b2.cells off2 = .v (.int .i16 (lb[0] 0)) := qe.celK (j := 0) (by omega)
  have q1 : cel b2.cells (off2 + 1) = .v (.int .i8 (lb[0] 1)) := qe.celK (j := 1) (by omega)
  have q2 : cel b2.cells (off2 + 2) = .v (.int .i8 (lb[0] 2)) := qe.celK (j := 2) (by omega)
  have qk := okK_iff.1 (tkOk_at e2 hj0).1
  have ka : ∀ x, kAt la (la.length - 1) x = la[m] x := fun x => by rw [show la.length - 1 = m by omega, kAt_at hjm]
  have kb : ∀ x, kAt lb 0 x = lb[0] x := fun x => by rw [kAt_at hj0]
  have hS : jnS la lb = (decide (la[m] 1 = lb[0] 1) && decide (la[m] 2 = lb[0] 2)) := by unfold jnS; rw [ka, ka, kb, kb]
  have hD : jnD la lb = la[m] 0 - lb[0] 0 := by unfold jnD; rw [ka, kb]
  have hDr := jnD_r e1 e2
  have s3 : ∀ f : Nat → Int, seg (encK f) 0 3 = encK f := fun f => rfl
  have hS2 := hS1
  rw [hS] at hS2
  simp only [Bool.and_eq_true, decide_eq_true_eq] at hS2
  have b1 : (la[m] 1 = lb[0] 1) = True := eq_true hS2.1
  have b2' : (la[m] 2 = lb[0] 2) = True := eq_true hS2.2
  have hokA : ∀ a ∈ la, okK a = true := fun a ha => by
    obtain ⟨j, hj, rfl⟩ := List.mem_iff_getElem.1 ha
    exact (tkOk_at e1 hj).1
  have hokB : ∀ a ∈ lb, okK a = true := fun a ha => by
    obtain ⟨j, hj, rfl⟩ := List.mem_iff_getElem.1 ha
    exact (tkOk_at e2 hj).1
  repeat (first | (simp only [go_sem, Int.reduceLT, Int.reduceLE, Int.reduceEq, Int.reduceToNat, celK0, celK1, celK2, encK_len, hat.get, g2, hat.live, hlt, hat2.get, g22, hat2.live, hlt2, tm, pf, pa, qf, q0, q1, q2, s3, hL, hL2, e1, e2, b1, b2']) | ((with_reducible refine And.intro ?_ ?_); omega) | ((with_reducible refine isSK ?_); first | (refine call_ret (l03Ok h0 hK hl) (by simp only [go_sem, Int.reduceLT, Int.reduceLE, Int.reduceEq, Int.reduceToNat, celK0, celK1, celK2, encK_len, hat.get, g2, hat.live, hlt, hat2.get, g22, hat2.live, hlt2, tm, pf, pa, qf, q0, q1, q2, s3, hL, hL2, e1, e2, b1, b2']) ?_) | (refine call_ret (l03Ok h20 hK2 hl2) (by simp only [go_sem, Int.reduceLT, Int.reduceLE, Int.reduceEq, Int.reduceToNat, celK0, celK1, celK2, encK_len, hat.get, g2, hat.live, hlt, hat2.get, g22, hat2.live, hlt2, tm, pf, pa, qf, q0, q1, q2, s3, hL, hL2, e1, e2, b1, b2']) ?_)) | ((with_reducible refine isMC ?_); first | (refine mcall_ret (l03Ok h0 hK hl) (by simp only [go_sem, Int.reduceLT, Int.reduceLE, Int.reduceEq, Int.reduceToNat, celK0, celK1, celK2, encK_len, hat.get, g2, hat.live, hlt, hat2.get, g22, hat2.live, hlt2, tm, pf, pa, qf, q0, q1, q2, s3, hL, hL2, e1, e2, b1, b2']) (by simp only [go_sem, Int.reduceLT, Int.reduceLE, Int.reduceEq, Int.reduceToNat, celK0, celK1, celK2, encK_len, hat.get, g2, hat.live, hlt, hat2.get, g22, hat2.live, hlt2, tm, pf, pa, qf, q0, q1, q2, s3, hL, hL2, e1, e2, b1, b2']) ?_) | (refine mcall_ret (l03Ok h20 hK2 hl2) (by simp only [go_sem, Int.reduceLT, Int.reduceLE, Int.reduceEq, Int.reduceToNat, celK0, celK1, celK2, encK_len, hat.get, g2, hat.live, hlt, hat2.get, g22, hat2.live, hlt2, tm, pf, pa, qf, q0, q1, q2, s3, hL, hL2, e1, e2, b1, b2']) (by simp only [go_sem, Int.reduceLT, Int.reduceLE, Int.reduceEq, Int.reduceToNat, celK0, celK1, celK2, encK_len, hat.get, g2, hat.live, hlt, hat2.get, g22, hat2.live, hlt2, tm, pf, pa, qf, q0, q1, q2, s3, hL, hL2, e1, e2, b1, b2']) ?_)) | ((with_reducible refine isWKr (id := 4) ?_); refine WK_drawAt 4 [[],[0],[],[2],[2,3],[2,3,4],[0,1,2,3,4,5],[0,1,2,3,4,5,6],[0,1,2,3,4,5,6,7],[0,1,2,3,4,5,6,7,8],[0,1,2,3,4,5,6,7],[0,1,2,3,4,5,6,7,10],[0,1,2,3,4,5,6,7,10,11],[0,1,2,3,4,5,6,7,10,11,12],[0,1,2,3,4,5,6,7,8,9,10,11,12,13],[0,1,2,3,4,5,6,7,8,9,10,11,12,13,14]] (by kernel_rfl) ?_) | ((with_reducible refine isWKr (id := 15) ?_); refine WK_drawAt 15 [[],[0],[],[2],[2,3],[],[5],[5,6],[5,6,7],[5,6,7,8],[2,3,4,5,6,7,8,9],[0,1,2,3,4,5,6,7,8,9,10],[0,1,2,3,4,5,6,7,8,9,10,11],[0,1,2,3,4,5,6,7,8,9,10,11,12]] (by kernel_rfl) ?_) | ((with_reducible refine And.intro ?_ ?_); first | (with_reducible rfl) | assumption | (simp only [go_sem]; done)))
  refine WK_for (fun n : Nat => ⟨[.s i off la.length c, .s i2 off2 lb.length c2, .any, .any, .any, .any, .p H.length 0, .s (H.length + 1) 0 n (.u 0), .v (.int .i64 n)] ++ junk 81, H ++ [⟨encK la[m], 55, .fix⟩, ⟨(la.take n).flatMap (rowL .i64 3), 50, .own 3⟩]⟩) (fun n => n ≤ la.length) (fun n => la.length - n) 0 ?_ ?_ fun n hn => ?_
  · exact Weak.slots (by simp [go_sem])
  · omega
  rcases Int.lt_or_le (n : Int) la.length with hc1 | hc1
  · have hjn : n < la.length := by omega
    have xa := hat.elem encK 3 encK_len hjn
    have xf := hat.fits encK 3 encK_len hjn (by omega)
    have hn1 : norefH (H.length + 1) H := norefH_wf hw (by omega)
    have hn3 : norefs (H.length + 1) (encK la[m]) = true := flat_encK.norefs1 _ _
    have hd1 : (H.length + 1 + 1 = H.length + 1) = False := eq_false (by omega)
    have hd2 : (i = H.length + 1) = False := eq_false (by omega)
    have hd3 : (H.length + 2 = H.length + 1) = False := eq_false (by omega)
    have hd4 : (H.length = H.length + 1) = False := eq_false (by omega)
    have hd5 : (i2 = H.length + 1) = False := eq_false (by omega)
    have hd6 : (H.length + 3 = H.length + 1) = False := eq_false (by omega)
    have hd7 : (H.length + 4 = H.length + 1) = False := eq_false (by omega)
    have wz : ∀ f : Nat → Int, wr [.v (.int .i64 0), .v (.int .i64 0), .v (.int .i64 0)] 0 (rowL .i64 3 f) = rowL .i64 3 f := fun f => rfl
    have hn2 : norefs (H.length + 1) ((la.take n).flatMap (rowL .i64 3)) = true := (flat_rowL .i64 3).norefs _ _
    have hl2 : ((la.take n).flatMap (rowL .i64 3)).length = n * 3 := by rw [(flat_rowL .i64 3).flen, List.length_take, Nat.min_eq_left (by omega)]
    have q0' : cel (rowL .i64 3 la[n]) 0 = .v (.int .i64 (la[n] 0)) := rfl
    have q1' : cel (rowL .i64 3 la[n]) 1 = .v (.int .i64 (la[n] 1)) := rfl
    have q2' : cel (rowL .i64 3 la[n]) 2 = .v (.int .i64 (la[n] 2)) := rfl
    repeat (first | (simp only [go_sem, Int.reduceLT, Int.reduceLE, Int.reduceEq, Int.reduceToNat, hL, hL2, hc1, hat.get, g2, hat.live, hlt, xa, xf, q0', q1', q2', hn1, hn2, hn3, hl2, hd1, hd2, hd3, hd4, hd5, hd6, hd7, hx, wz, encK_len]) | ((with_reducible refine And.intro ?_ ?_); omega) | ((with_reducible refine isSK ?_); first | (refine call_ret (l03Numbers (okK_KyW (hokA _ (List.getElem_mem hjn)))) (by simp only [go_sem, Int.reduceLT, Int.reduceLE, Int.reduceEq, Int.reduceToNat, hL, hL2, hc1, hat.get, g2, hat.live, hlt, xa, xf, q0', q1', q2', hn1, hn2, hn3, hl2, hd1, hd2, hd3, hd4, hd5, hd6, hd7, hx, wz, encK_len]) ?_)) | ((with_reducible refine isMC ?_); first | (refine mcall_ret (l03Numbers (okK_KyW (hokA _ (List.getElem_mem hjn)))) (by simp only [go_sem, Int.reduceLT, Int.reduceLE, Int.reduceEq, Int.reduceToNat, hL, hL2, hc1, hat.get, g2, hat.live, hlt, xa, xf, q0', q1', q2', hn1, hn2, hn3, hl2, hd1, hd2, hd3, hd4, hd5, hd6, hd7, hx, wz, encK_len]) (by simp only [go_sem, Int.reduceLT, Int.reduceLE, Int.reduceEq, Int.reduceToNat, hL, hL2, hc1, hat.get, g2, hat.live, hlt, xa, xf, q0', q1', q2', hn1, hn2, hn3, hl2, hd1, hd2, hd3, hd4, hd5, hd6, hd7, hx, wz, encK_len]) ?_)) | ((with_reducible refine isWKr (id := 4) ?_); refine WK_drawAt 4 [[],[0],[],[2],[2,3],[2,3,4],[0,1,2,3,4,5],[0,1,2,3,4,5,6],[0,1,2,3,4,5,6,7],[0,1,2,3,4,5,6,7,8],[0,1,2,3,4,5,6,7],[0,1,2,3,4,5,6,7,10],[0,1,2,3,4,5,6,7,10,11],[0,1,2,3,4,5,6,7,10,11,12],[0,1,2,3,4,5,6,7,8,9,10,11,12,13],[0,1,2,3,4,5,6,7,8,9,10,11,12,13,14]] (by kernel_rfl) ?_) | ((with_reducible refine isWKr (id := 15) ?_); refine WK_drawAt 15 [[],[0],[],[2],[2,3],[],[5],[5,6],[5,6,7],[5,6,7,8],[2,3,4,5,6,7,8,9],[0,1,2,3,4,5,6,7,8,9,10],[0,1,2,3,4,5,6,7,8,9,10,11],[0,1,2,3,4,5,6,7,8,9,10,11,12]] (by kernel_rfl) ?_) | ((with_reducible refine And.intro ?_ ?_); first | (with_reducible rfl) | assumption | (simp only [go_sem]; done)))
    refine EK_again (n + 1) ?_ (by omega) (by omega)
    rw [List.take_succ_eq_append_getElem hjn, flat_snoc]
    exact Weak.keepN rfl (by simp [go_sem] <;> omega) (by simp [hx]) (by simp [go_sem, flat_encK.lts1, (flat_rowL .i64 3).lts, hlt] <;> omega) (hw.app (by simp [go_sem, flat_encK.lts1, (flat_rowL .i64 3).lts, hlt] <;> omega))
  have hnl : n = la.length := by omega
  subst hnl
  rw [List.take_length]
  repeat (first | (simp only [go_sem, Int.reduceLT, Int.reduceLE, Int.reduceEq, Int.reduceToNat, hL, Int.not_lt.2 hc1]) | ((with_reducible refine And.intro ?_ ?_); omega) | ((with_reducible refine isWKr (id := 4) ?_); refine WK_drawAt 4 [[],[0],[],[2],[2,3],[2,3,4],[0,1,2,3,4,5],[0,1,2,3,4,5,6],[0,1,2,3,4,5,6,7],[0,1,2,3,4,5,6,7,8],[0,1,2,3,4,5,6,7],[0,1,2,3,4,5,6,7,10],[0,1,2,3,4,5,6,7,10,11],[0,1,2,3,4,5,6,7,10,11,12],[0,1,2,3,4,5,6,7,8,9,10,11,12,13],[0,1,2,3,4,5,6,7,8,9,10,11,12,13,14]] (by kernel_rfl) ?_) | ((with_reducible refine isWKr (id := 15) ?_); refine WK_drawAt 15 [[],[0],[],[2],[2,3],[],[5],[5,6],[5,6,7],[5,6,7,8],[2,3,4,5,6,7,8,9],[0,1,2,3,4,5,6,7,8,9,10],[0,1,2,3,4,5,6,7,8,9,10,11],[0,1,2,3,4,5,6,7,8,9,10,11,12]] (by kernel_rfl) ?_) | ((with_reducible refine And.intro ?_ ?_); first | (with_reducible rfl) | assumption | (simp only [go_sem]; done)))
  clear hc1 hn
  refine WK_for (fun n : Nat => ⟨[.s i off la.length c, .s i2 off2 lb.length c2, .any, .any, .any, .any, .p H.length 0, .s (H.length + 1) 0 (jnT la lb n).length (.u 0), .any, .v (.int .i64 n)] ++ junk 80, H ++ [⟨encK la[m], 55, .fix⟩, ⟨(jnT la lb n).flatMap (rowL .i64 3), 50, .own 3⟩]⟩) (fun n => 1 ≤ n ∧ n ≤ lb.length) (fun n => lb.length - n) 1 ?_ ?_ fun n hn => ?_
  · rw [jnT_one]
    exact Weak.slots (by simp [go_sem])
  · omega
  rcases Int.lt_or_le (n : Int) lb.length with hc1 | hc1
  · have hjn : n < lb.length := by omega
    have xa := hat2.elem encK 3 encK_len hjn
    have xf := hat2.fits encK 3 encK_len hjn (by omega)
    have xk := okK_iff.1 (hokB _ (List.getElem_mem hjn))
    have hn1 : norefH (H.length + 1) H := norefH_wf hw (by omega)
    have hn3 : norefs (H.length + 1) (encK la[m]) = true := flat_encK.norefs1 _ _
    have hd1 : (H.length + 1 + 1 = H.length + 1) = False := eq_false (by omega)
    have hd2 : (i = H.length + 1) = False := eq_false (by omega)
    have hd3 : (H.length + 2 = H.length + 1) = False := eq_false (by omega)
    have hd4 : (H.length = H.length + 1) = False := eq_false (by omega)
    have hd5 : (i2 = H.length + 1) = False := eq_false (by omega)
    have hd6 : (H.length + 3 = H.length + 1) = False := eq_false (by omega)
    have hd7 : (H.length + 4 = H.length + 1) = False := eq_false (by omega)
    have wz : ∀ f : Nat → Int, wr [.v (.int .i64 0), .v (.int .i64 0), .v (.int .i64 0)] 0 (rowL .i64 3 f) = rowL .i64 3 f := fun f => rfl
    have hn2 : norefs (H.length + 1) ((jnT la lb n).flatMap (rowL .i64 3)) = true := (flat_rowL .i64 3).norefs _ _
    have hl2 : ((jnT la lb n).flatMap (rowL .i64 3)).length = (jnT la lb n).length * 3 := (flat_rowL .i64 3).flen _
    have hjl := jnT_len la lb hn.1 hn.2
    have q0' : cel (rowL .i64 3 lb[n]) 0 = .v (.int .i64 (lb[n] 0)) := rfl
    have q1' : cel (rowL .i64 3 lb[n]) 1 = .v (.int .i64 (lb[n] 1)) := rfl
    have q2' : cel (rowL .i64 3 lb[n]) 2 = .v (.int .i64 (lb[n] 2)) := rfl
    have w1 : rowL .i64 3 (jnG la lb lb[n]) = [.v (.int .i64 (lb[n] 0 + (la[m] 0 - lb[0] 0))), .v (.int .i64 (lb[n] 1)), .v (.int .i64 (lb[n] 2))] := by unfold jnG; rw [hD]; rfl
    have w2 : ∀ x : Int, wr (rowL .i64 3 lb[n]) 0 [.v (.int .i64 x)] = [.v (.int .i64 x), .v (.int .i64 (lb[n] 1)), .v (.int .i64 (lb[n] 2))] := fun x => rfl
    have w3 : ∀ p q r : V, seg [p, q, r] 0 3 = [p, q, r] := fun _ _ _ => rfl
    rw [hD] at hDr
    repeat (first | (simp only [go_sem, Int.reduceLT, Int.reduceLE, Int.reduceEq, Int.reduceToNat, hL, hL2, hc1, celK0, celK1, celK2, encK_len, hat.get, g2, hat.live, hlt, hat2.get, g22, hat2.live, hlt2, tm, pf, pa, qf, q0, q1, q2, s3, xa, xf, w2, w3, q0', q1', q2', hn1, hn2, hn3, hl2, hd1, hd2, hd3, hd4, hd5, hd6, hd7, hx, wz, encK_len]) | ((with_reducible refine And.intro ?_ ?_); omega) | ((with_reducible refine isSK ?_); first | (refine call_ret (l03Numbers (okK_KyW (hokB _ (List.getElem_mem hjn)))) (by simp only [go_sem, Int.reduceLT, Int.reduceLE, Int.reduceEq, Int.reduceToNat, hL, hL2, hc1, celK0, celK1, celK2, encK_len, hat.get, g2, hat.live, hlt, hat2.get, g22, hat2.live, hlt2, tm, pf, pa, qf, q0, q1, q2, s3, xa, xf, w2, w3, q0', q1', q2', hn1, hn2, hn3, hl2, hd1, hd2, hd3, hd4, hd5, hd6, hd7, hx, wz, encK_len]) ?_)) | ((with_reducible refine isMC ?_); first | (refine mcall_ret (l03Numbers (okK_KyW (hokB _ (List.getElem_mem hjn)))) (by simp only [go_sem, Int.reduceLT, Int.reduceLE, Int.reduceEq, Int.reduceToNat, hL, hL2, hc1, celK0, celK1, celK2, encK_len, hat.get, g2, hat.live, hlt, hat2.get, g22, hat2.live, hlt2, tm, pf, pa, qf, q0, q1, q2, s3, xa, xf, w2, w3, q0', q1', q2', hn1, hn2, hn3, hl2, hd1, hd2, hd3, hd4, hd5, hd6, hd7, hx, wz, encK_len]) (by simp only [go_sem, Int.reduceLT, Int.reduceLE, Int.reduceEq, Int.reduceToNat, hL, hL2, hc1, celK0, celK1, celK2, encK_len, hat.get, g2, hat.live, hlt, hat2.get, g22, hat2.live, hlt2, tm, pf, pa, qf, q0, q1, q2, s3, xa, xf, w2, w3, q0', q1', q2', hn1, hn2, hn3, hl2, hd1, hd2, hd3, hd4, hd5, hd6, hd7, hx, wz, encK_len]) ?_)) | ((with_reducible refine isWKr (id := 4) ?_); refine WK_drawAt 4 [[],[0],[],[2],[2,3],[2,3,4],[0,1,2,3,4,5],[0,1,2,3,4,5,6],[0,1,2,3,4,5,6,7],[0,1,2,3,4,5,6,7,8],[0,1,2,3,4,5,6,7],[0,1,2,3,4,5,6,7,10],[0,1,2,3,4,5,6,7,10,11],[0,1,2,3,4,5,6,7,10,11,12],[0,1,2,3,4,5,6,7,8,9,10,11,12,13],[0,1,2,3,4,5,6,7,8,9,10,11,12,13,14]] (by kernel_rfl) ?_) | ((with_reducible refine isWKr (id := 15) ?_); refine WK_drawAt 15 [[],[0],[],[2],[2,3],[],[5],[5,6],[5,6,7],[5,6,7,8],[2,3,4,5,6,7,8,9],[0,1,2,3,4,5,6,7,8,9,10],[0,1,2,3,4,5,6,7,8,9,10,11],[0,1,2,3,4,5,6,7,8,9,10,11,12]] (by kernel_rfl) ?_) | ((with_reducible refine And.intro ?_ ?_); first | (with_reducible rfl) | assumption | (simp only [go_sem]; done)))
    refine EK_again (n + 1) ?_ (by omega) (by omega)
    rw [jnT_succ la lb hn.1 hjn, flat_snoc, w1]
    exact Weak.keepN rfl (by simp [go_sem] <;> omega) (by simp [hx]) (by simp [go_sem, flat_encK.lts1, (flat_rowL .i64 3).lts, hlt, hlt2] <;> omega) (hw.app (by simp [go_sem, flat_encK.lts1, (flat_rowL .i64 3).lts, hlt, hlt2] <;> omega))
  have hnl : n = lb.length := by omega
  subst hnl
  rw [jnT_all]
  have hjl := jnL_len la lb
  have hjl2 := jnN_len la lb
  repeat (first | (simp only [go_sem, Int.reduceLT, Int.reduceLE, Int.reduceEq, Int.reduceToNat, hL, hL2, Int.not_lt.2 hc1]) | ((with_reducible refine And.intro ?_ ?_); omega) | ((with_reducible refine isSK ?_); first | (refine call_ret (l03Made_ok (L := jnN la lb) (Rd.own 1 rfl rfl rfl) hv2) (by simp only [go_sem, Int.reduceLT, Int.reduceLE, Int.reduceEq, Int.reduceToNat, hL, hL2, Int.not_lt.2 hc1]) ?_)) | ((with_reducible refine isMC ?_); first | (refine mcall_ret (l03Made_ok (L := jnN la lb) (Rd.own 1 rfl rfl rfl) hv2) (by simp only [go_sem, Int.reduceLT, Int.reduceLE, Int.reduceEq, Int.reduceToNat, hL, hL2, Int.not_lt.2 hc1]) (by simp only [go_sem, Int.reduceLT, Int.reduceLE, Int.reduceEq, Int.reduceToNat, hL, hL2, Int.not_lt.2 hc1]) ?_)) | ((with_reducible refine isWKr (id := 4) ?_); refine WK_drawAt 4 [[],[0],[],[2],[2,3],[2,3,4],[0,1,2,3,4,5],[0,1,2,3,4,5,6],[0,1,2,3,4,5,6,7],[0,1,2,3,4,5,6,7,8],[0,1,2,3,4,5,6,7],[0,1,2,3,4,5,6,7,10],[0,1,2,3,4,5,6,7,10,11],[0,1,2,3,4,5,6,7,10,11,12],[0,1,2,3,4,5,6,7,8,9,10,11,12,13],[0,1,2,3,4,5,6,7,8,9,10,11,12,13,14]] (by kernel_rfl) ?_) | ((with_reducible refine isWKr (id := 15) ?_); refine WK_drawAt 15 [[],[0],[],[2],[2,3],[],[5],[5,6],[5,6,7],[5,6,7,8],[2,3,4,5,6,7,8,9],[0,1,2,3,4,5,6,7,8,9,10],[0,1,2,3,4,5,6,7,8,9,10,11],[0,1,2,3,4,5,6,7,8,9,10,11,12]] (by kernel_rfl) ?_) | ((with_reducible refine And.intro ?_ ?_); first | (with_reducible rfl) | assumption | (simp only [go_sem]; done)))
  refine ret_one hq hw _ (.inl rfl) 2 rfl (of_eq_true (flat_encK.lts _ _)) (.t [.s H.length 0 (jnL la lb).length (.u 0), .v (.int .i64 0)]) (by simp [go_sem]) ?_
  simp [go_sem, conc, concs, upσ, Cap.val, jnL]
end Go.Proofs.Ytpjimhkblldhaaa

