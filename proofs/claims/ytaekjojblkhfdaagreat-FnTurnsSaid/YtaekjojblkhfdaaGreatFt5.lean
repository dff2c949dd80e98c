/- Contracts of functions of the translated program, by the walk. -/
import Derived.Test.YtaekjojblkhfdaaGreatFt3
import Derived.Test.YtaekjojblkhfdaaGreatFt1
import Derived.Test.YtaekjojblkhfdaaGreatB2
set_option linter.unusedVariables false
set_option linter.unusedSimpArgs false
set_option maxRecDepth 8000
set_option maxHeartbeats 16000000
namespace Go.Proofs.YtaekjojblkhfdaaGreat
open Go Go.Sx
/-- A book of the call's own. -/
def KG (H : List Blk) (v : V) (l : List (Nat → Int)) : Prop := ∃ bi, v = .s bi 0 l.length (.u 0) ∧ H[bi]? = some ⟨l.flatMap (rowL .u16 12), 63, .own 12⟩
theorem specFillGap_okU {H : List Blk} {v : V} {l : List (Nat → Int)} {q : Nat} (h : Rd H v (rowL .u16 12) l) (hku : KG H v l) (hR : ∀ f ∈ l, R16 f) (hc : gapC l q = 0) :
    Cal Tryz.prog 21 [v, .v (.int .i64 q)] H fun u H' => u = .t [.s H.length 0 (gapF l q).length (.u 0), .v (.int .i64 0)] ∧ H' = H ++ [⟨(gapF l q).flatMap (rowL .u16 12), 63, .own 12⟩] := by
  have hsol := h.solid
  have hL := h.lenV (P := Tryz.prog) slTy25
  obtain ⟨hp, hB, hr, h40⟩ := gapC_ok hc
  have hF := okB_12 hB hR
  have hf0 := pg_12 hF q
  have hf1 := pg_12 hF (q + 1)
  obtain ⟨i, off, c, b, rfl, hat, hf⟩ := h.full (by omega)
  obtain ⟨bi2, hv2, hbk⟩ := hku
  cases hv2
  obtain rfl := Option.some.inj (hat.get.symm.trans hbk)
  have hbl := hat.lt
  have hil := hat.lt
  have hfl := Flat.flen (flat_rowL .u16 12) l
  have g2 : ∀ L : List Blk, (H ++ L)[i]? = some ⟨l.flatMap (rowL .u16 12), 63, .own 12⟩ := fun L => get_app hat.get
  have e1 : ((q : Int) = (l.length : Int) - 1) = False := eq_false (by omega)
  have e1b : ((q : Int) + 1 = (l.length : Int)) = False := eq_false (by omega)
  have e2 : ((l.length : Int) = 40) = False := eq_false (by omega)
  have t0 : ((q : Int) + 1).toNat = q + 1 := by omega
  have a0 := hat.elem (rowL .u16 12) 12 hz12 (show q < l.length by omega)
  have a1 := hat.elem (rowL .u16 12) 12 hz12 (show q + 1 < l.length by omega)
  have f0 := hat.fits (rowL .u16 12) 12 hz12 (show q < l.length by omega) (by omega)
  have f1 := hat.fits (rowL .u16 12) 12 hz12 (show q + 1 < l.length by omega) (by omega)
  rw [← pg_at] at a0 a1
  have hd1 : (H.length + 1 = H.length) = False := eq_false (by omega)
  have hd2 : (i = H.length) = False := eq_false (by omega)
  have hq40 : ((q : Int) < (l.length : Int)) = True := eq_true (by omega)
  have hq41 : ((q : Int) + 1 < (l.length : Int)) = True := eq_true (by omega)
  have hcut : ((0 : Nat) < q + 1 ∧ q + 1 = l.length) = False := eq_false (by omega)
  have hcut2 : ((0 : Int) < (q : Int) + 1 ∧ (q : Int) + 1 = (l.length : Int)) = False := eq_false (by omega)
  have hco : coP 0 (q + 1) (some ⟨l.flatMap (rowL .u16 12), 63, .own 12⟩) = True := by rw [coP_some, hfl]; exact eq_true ⟨by omega, by omega⟩
  have hln2 : q + (2 + (l.length - (q + 1))) = l.length + 1 := by omega
  have hgl := gapF_len (l := l) (q := q) (by omega)
  have hs1 : seg (l.flatMap (rowL .u16 12)) 0 ((q + 1) * 12) = (l.take (q + 1)).flatMap (rowL .u16 12) := by
    unfold seg; rw [List.drop_zero, ← flat_take12]
  have hs2 : seg (l.flatMap (rowL .u16 12)) ((q + 1) * 12) ((l.length - (q + 1)) * 12) = (l.drop (q + 1)).flatMap (rowL .u16 12) := by
    unfold seg; rw [← flat_drop12, List.take_of_length_le (by rw [List.length_drop, hfl]; omega)]
  have hl1 : ((l.take (q + 1)).flatMap (rowL .u16 12)).length = (q + 1) * 12 := by rw [(flat_rowL .u16 12).flen, List.length_take, Nat.min_eq_left (by omega)]
  have hl2 : ((l.drop (q + 1)).flatMap (rowL .u16 12)).length = (l.length - (q + 1)) * 12 := by rw [(flat_rowL .u16 12).flen, List.length_drop]
  have hr1 : ∀ k m, norefs k ((l.take m).flatMap (rowL .u16 12)) = true := fun _ _ => (flat_rowL .u16 12).norefs _ _
  have hr2 : ∀ k m, norefs k ((l.drop m).flatMap (rowL .u16 12)) = true := fun _ _ => (flat_rowL .u16 12).norefs _ _
  simp only [Nat.zero_add] at a0 a1 f0 f1
  refine cal_fn 47 mixed Tryz.func21 Tryz.ntmps21 Tryz.results21 rfl rfl rfl fun hw cx hx hq => ?_
  have hn1 : norefH H.length H := norefH_wf hw (Nat.le_refl _)
  repeat (first | (simp only [go_sem, Int.reduceLT, Int.reduceLE, Int.reduceEq, Int.reduceToNat, hp, e1, e1b, e2, hat.get, g2, hat.live, hil, t0, a0, a1, f0, f1, hfl, hd1, hd2, hx, hq40, hq41, hL, rowL_rep, hcut, Nat.zero_add, hbl, hco, Nat.zero_mul]) | ((with_reducible refine And.intro ?_ ?_); omega) | ((with_reducible refine isSK ?_); first | (refine call_ret (l04Page h (by omega)) (by simp only [go_sem, Int.reduceLT, Int.reduceLE, Int.reduceEq, Int.reduceToNat, hp, e1, e1b, e2, hat.get, g2, hat.live, hil, t0, a0, a1, f0, f1, hfl, hd1, hd2, hx, hq40, hq41, hL, rowL_rep, hcut, Nat.zero_add, hbl, hco, Nat.zero_mul]) ?_)) | ((with_reducible refine isMC ?_); first | (refine mcall_ret (l04Page h (by omega)) (by simp only [go_sem, Int.reduceLT, Int.reduceLE, Int.reduceEq, Int.reduceToNat, hp, e1, e1b, e2, hat.get, g2, hat.live, hil, t0, a0, a1, f0, f1, hfl, hd1, hd2, hx, hq40, hq41, hL, rowL_rep, hcut, Nat.zero_add, hbl, hco, Nat.zero_mul]) (by simp only [go_sem, Int.reduceLT, Int.reduceLE, Int.reduceEq, Int.reduceToNat, hp, e1, e1b, e2, hat.get, g2, hat.live, hil, t0, a0, a1, f0, f1, hfl, hd1, hd2, hx, hq40, hq41, hL, rowL_rep, hcut, Nat.zero_add, hbl, hco, Nat.zero_mul]) ?_)) | ((with_reducible refine exV0 ?_); try simp only [go_sem, fillZ, pr, List.getD_cons_zero, List.getD_cons_succ, List.getD_nil, ls0, opnd, stay, anyL, clo, List.map_cons, List.map_nil, List.zip_cons_cons, List.zip_nil_left, List.zip_nil_right, List.append_nil, List.nil_append, List.cons_append, List.foldl_cons, List.foldl_nil, List.filter_cons, List.filter_nil, List.contains_nil, List.contains_cons, List.elem_nil, beq_self_eq_true, Nat.reduceBEq, Bool.or_false, Bool.or_true, Bool.true_or, Bool.false_or, Bool.not_true, Bool.not_false, Bool.false_eq_true, if_true, if_false, St.put, Int.reduceLT, Int.reduceLE, Int.reduceEq, Int.reduceToNat, hp, e1, e1b, e2, hat.get, g2, hat.live, hil, t0, a0, a1, f0, f1, hfl, hd1, hd2, hx, hq40, hq41, hL, rowL_rep, hcut, Nat.zero_add, hbl, hco, Nat.zero_mul]) | ((with_reducible first | apply exV1 | apply exV2 | apply exV3 | apply exV4 | apply exV5 | apply exV6 | apply exV7 | apply exV8 | apply exV9 | apply exV10 | apply exV11 | apply exV12 | apply exV13 | apply exV14); try simp only [go_sem, fillZ, pr, List.getD_cons_zero, List.getD_cons_succ, List.getD_nil, ls0, opnd, stay, anyL, clo, List.map_cons, List.map_nil, List.zip_cons_cons, List.zip_nil_left, List.zip_nil_right, List.append_nil, List.nil_append, List.cons_append, List.foldl_cons, List.foldl_nil, List.filter_cons, List.filter_nil, List.contains_nil, List.contains_cons, List.elem_nil, beq_self_eq_true, Nat.reduceBEq, Bool.or_false, Bool.or_true, Bool.true_or, Bool.false_or, Bool.not_true, Bool.not_false, Bool.false_eq_true, if_true, if_false, St.put, Int.reduceLT, Int.reduceLE, Int.reduceEq, Int.reduceToNat, hp, e1, e1b, e2, hat.get, g2, hat.live, hil, t0, a0, a1, f0, f1, hfl, hd1, hd2, hx, hq40, hq41, hL, rowL_rep, hcut, Nat.zero_add, hbl, hco, Nat.zero_mul]) | ((with_reducible apply isTKs); apply TK_step rfl rfl; (focus ((repeat (apply evCons; (focus (apply evZ_mk0; (focus rfl); (focus rfl); (focus rfl); rotate_left 3; (focus (simp only [go_sem, fillZ, pr, List.getD_cons_zero, List.getD_cons_succ, List.getD_nil, ls0, opnd, stay, anyL, clo, List.map_cons, List.map_nil, List.zip_cons_cons, List.zip_nil_left, List.zip_nil_right, List.append_nil, List.nil_append, List.cons_append, List.foldl_cons, List.foldl_nil, List.filter_cons, List.filter_nil, List.contains_nil, List.contains_cons, List.elem_nil, beq_self_eq_true, Nat.reduceBEq, Bool.or_false, Bool.or_true, Bool.true_or, Bool.false_or, Bool.not_true, Bool.not_false, Bool.false_eq_true, if_true, if_false, St.put, Int.reduceLT, Int.reduceLE, Int.reduceEq, Int.reduceToNat, hp, e1, e1b, e2, hat.get, g2, hat.live, hil, t0, a0, a1, f0, f1, hfl, hd1, hd2, hx, hq40, hq41, hL, rowL_rep, hcut, Nat.zero_add, hbl, hco, Nat.zero_mul]; try first | with_reducible rfl | ((repeat' apply And.intro) <;> first | omega | with_reducible rfl | trivial | rfl))); (all_goals try first | (simp [go_sem, hx, Int.reduceLT, Int.reduceLE, Int.reduceEq, Int.reduceToNat, hp, e1, e1b, e2, hat.get, g2, hat.live, hil, t0, a0, a1, f0, f1, hfl, hd1, hd2, hx, hq40, hq41, hL, rowL_rep, hcut, Nat.zero_add, hbl, hco, Nat.zero_mul]; done) | (intro e; first | (cases e; done) | (cases e; exact absurd (by assumption : V.solid .any = true) (by decide))) | (simp [go_sem, fillZ, pr, List.getD_cons_zero, List.getD_cons_succ, List.getD_nil, ls0, opnd, stay, anyL, clo, List.map_cons, List.map_nil, List.zip_cons_cons, List.zip_nil_left, List.zip_nil_right, List.append_nil, List.nil_append, List.cons_append, List.foldl_cons, List.foldl_nil, List.filter_cons, List.filter_nil, List.contains_nil, List.contains_cons, List.elem_nil, beq_self_eq_true, Nat.reduceBEq, Bool.or_false, Bool.or_true, Bool.true_or, Bool.false_or, Bool.not_true, Bool.not_false, Bool.false_eq_true, if_true, if_false, St.put]; done)))))); exact evNil)); simp only [fillZ, pr, List.getD_cons_zero, List.getD_cons_succ, List.getD_nil, ls0, opnd, stay, anyL, clo, List.map_cons, List.map_nil, List.zip_cons_cons, List.zip_nil_left, List.zip_nil_right, List.append_nil, List.nil_append, List.cons_append, List.foldl_cons, List.foldl_nil, List.filter_cons, List.filter_nil, List.contains_nil, List.contains_cons, List.elem_nil, beq_self_eq_true, Nat.reduceBEq, Bool.or_false, Bool.or_true, Bool.true_or, Bool.false_or, Bool.not_true, Bool.not_false, Bool.false_eq_true, if_true, if_false, St.put]) | ((with_reducible apply isTKn); apply TK_nil; (focus ((repeat (apply evCons; (focus (apply evZ_mk0; (focus rfl); (focus rfl); (focus rfl); rotate_left 3; (focus (simp only [go_sem, fillZ, pr, List.getD_cons_zero, List.getD_cons_succ, List.getD_nil, ls0, opnd, stay, anyL, clo, List.map_cons, List.map_nil, List.zip_cons_cons, List.zip_nil_left, List.zip_nil_right, List.append_nil, List.nil_append, List.cons_append, List.foldl_cons, List.foldl_nil, List.filter_cons, List.filter_nil, List.contains_nil, List.contains_cons, List.elem_nil, beq_self_eq_true, Nat.reduceBEq, Bool.or_false, Bool.or_true, Bool.true_or, Bool.false_or, Bool.not_true, Bool.not_false, Bool.false_eq_true, if_true, if_false, St.put, Int.reduceLT, Int.reduceLE, Int.reduceEq, Int.reduceToNat, hp, e1, e1b, e2, hat.get, g2, hat.live, hil, t0, a0, a1, f0, f1, hfl, hd1, hd2, hx, hq40, hq41, hL, rowL_rep, hcut, Nat.zero_add, hbl, hco, Nat.zero_mul]; try first | with_reducible rfl | ((repeat' apply And.intro) <;> first | omega | with_reducible rfl | trivial | rfl))); (all_goals try first | (simp [go_sem, hx, Int.reduceLT, Int.reduceLE, Int.reduceEq, Int.reduceToNat, hp, e1, e1b, e2, hat.get, g2, hat.live, hil, t0, a0, a1, f0, f1, hfl, hd1, hd2, hx, hq40, hq41, hL, rowL_rep, hcut, Nat.zero_add, hbl, hco, Nat.zero_mul]; done) | (intro e; first | (cases e; done) | (cases e; exact absurd (by assumption : V.solid .any = true) (by decide))) | (simp [go_sem, fillZ, pr, List.getD_cons_zero, List.getD_cons_succ, List.getD_nil, ls0, opnd, stay, anyL, clo, List.map_cons, List.map_nil, List.zip_cons_cons, List.zip_nil_left, List.zip_nil_right, List.append_nil, List.nil_append, List.cons_append, List.foldl_cons, List.foldl_nil, List.filter_cons, List.filter_nil, List.contains_nil, List.contains_cons, List.elem_nil, beq_self_eq_true, Nat.reduceBEq, Bool.or_false, Bool.or_true, Bool.true_or, Bool.false_or, Bool.not_true, Bool.not_false, Bool.false_eq_true, if_true, if_false, St.put]; done)))))); exact evNil)); try simp only [go_sem, fillZ, pr, List.getD_cons_zero, List.getD_cons_succ, List.getD_nil, ls0, opnd, stay, anyL, clo, List.map_cons, List.map_nil, List.zip_cons_cons, List.zip_nil_left, List.zip_nil_right, List.append_nil, List.nil_append, List.cons_append, List.foldl_cons, List.foldl_nil, List.filter_cons, List.filter_nil, List.contains_nil, List.contains_cons, List.elem_nil, beq_self_eq_true, Nat.reduceBEq, Bool.or_false, Bool.or_true, Bool.true_or, Bool.false_or, Bool.not_true, Bool.not_false, Bool.false_eq_true, if_true, if_false, St.put, Int.reduceLT, Int.reduceLE, Int.reduceEq, Int.reduceToNat, hp, e1, e1b, e2, hat.get, g2, hat.live, hil, t0, a0, a1, f0, f1, hfl, hd1, hd2, hx, hq40, hq41, hL, rowL_rep, hcut, Nat.zero_add, hbl, hco, Nat.zero_mul]) | ((with_reducible refine And.intro ?_ ?_); first | (with_reducible rfl) | assumption | (simp only [go_sem]; done)))
  refine WK_looseN 8 [[],[],[],[2],[1,2,3],[0,1,2,3,4],[],[],[6,7],[6,7,8],[],[],[11],[10,11,12],[10,11,12,13],[0,1,2,3,4,5,6,7,8,9,10,11,12,13,14],[0,1,2,3,4,5,6,7,8,9,10,11,12,13,14,15],[0,1,2,3,4,5,6,7,8,9,10,11,12,13,14,15,16],[0,1,2,3,4,5,6,7,8,9,10,11,12,13,14,15,16,17]] 0 [] [(1, 26), (2, 27), (3, 28), (4, 29), (6, 31), (7, 32), (8, 33), (9, 34), (10, 35), (11, 36), (12, 37), (13, 38), (14, 39)] [(0, [], []), (5, [1, 2, 3, 4], []), (15, [6, 7, 8, 9, 10, 11, 12, 13, 14], []), (16, [], []), (17, [], []), (18, [], [])] (by kernel_rfl) ?_; dsimp only [List.take]
  repeat (first | (simp only [go_sem, Int.reduceLT, Int.reduceLE, Int.reduceEq, Int.reduceToNat, hp, e1, e1b, e2, hat.get, g2, hat.live, hil, t0, a0, a1, f0, f1, hfl, hd1, hd2, hx, hq40, hq41, hL, rowL_rep, hcut, hco, hbl, hln2, hs1, hs2, Nat.zero_mul, Nat.zero_add, hl1, hl2, hr1, hr2, hn1]) | ((with_reducible refine And.intro ?_ ?_); omega) | ((with_reducible refine isSK ?_); first | (refine call_ret (l03Morph (s := 1) (t := 2) hf0 hf1 (by omega) (by omega) (by omega)) (by simp only [go_sem, Int.reduceLT, Int.reduceLE, Int.reduceEq, Int.reduceToNat, hp, e1, e1b, e2, hat.get, g2, hat.live, hil, t0, a0, a1, f0, f1, hfl, hd1, hd2, hx, hq40, hq41, hL, rowL_rep, hcut, hco, hbl, hln2, hs1, hs2, Nat.zero_mul, Nat.zero_add, hl1, hl2, hr1, hr2, hn1]) ?_)) | ((with_reducible refine isMC ?_); first | (refine mcall_ret (l03Morph (s := 1) (t := 2) hf0 hf1 (by omega) (by omega) (by omega)) (by simp only [go_sem, Int.reduceLT, Int.reduceLE, Int.reduceEq, Int.reduceToNat, hp, e1, e1b, e2, hat.get, g2, hat.live, hil, t0, a0, a1, f0, f1, hfl, hd1, hd2, hx, hq40, hq41, hL, rowL_rep, hcut, hco, hbl, hln2, hs1, hs2, Nat.zero_mul, Nat.zero_add, hl1, hl2, hr1, hr2, hn1]) (by simp only [go_sem, Int.reduceLT, Int.reduceLE, Int.reduceEq, Int.reduceToNat, hp, e1, e1b, e2, hat.get, g2, hat.live, hil, t0, a0, a1, f0, f1, hfl, hd1, hd2, hx, hq40, hq41, hL, rowL_rep, hcut, hco, hbl, hln2, hs1, hs2, Nat.zero_mul, Nat.zero_add, hl1, hl2, hr1, hr2, hn1]) ?_)) | ((with_reducible refine exV0 ?_); try simp only [go_sem, fillZ, pr, List.getD_cons_zero, List.getD_cons_succ, List.getD_nil, ls0, opnd, stay, anyL, clo, List.map_cons, List.map_nil, List.zip_cons_cons, List.zip_nil_left, List.zip_nil_right, List.append_nil, List.nil_append, List.cons_append, List.foldl_cons, List.foldl_nil, List.filter_cons, List.filter_nil, List.contains_nil, List.contains_cons, List.elem_nil, beq_self_eq_true, Nat.reduceBEq, Bool.or_false, Bool.or_true, Bool.true_or, Bool.false_or, Bool.not_true, Bool.not_false, Bool.false_eq_true, if_true, if_false, St.put, Int.reduceLT, Int.reduceLE, Int.reduceEq, Int.reduceToNat, hp, e1, e1b, e2, hat.get, g2, hat.live, hil, t0, a0, a1, f0, f1, hfl, hd1, hd2, hx, hq40, hq41, hL, rowL_rep, hcut, hco, hbl, hln2, hs1, hs2, Nat.zero_mul, Nat.zero_add, hl1, hl2, hr1, hr2, hn1]) | ((with_reducible first | apply exV1 | apply exV2 | apply exV3 | apply exV4 | apply exV5 | apply exV6 | apply exV7 | apply exV8 | apply exV9 | apply exV10 | apply exV11 | apply exV12 | apply exV13 | apply exV14); try simp only [go_sem, fillZ, pr, List.getD_cons_zero, List.getD_cons_succ, List.getD_nil, ls0, opnd, stay, anyL, clo, List.map_cons, List.map_nil, List.zip_cons_cons, List.zip_nil_left, List.zip_nil_right, List.append_nil, List.nil_append, List.cons_append, List.foldl_cons, List.foldl_nil, List.filter_cons, List.filter_nil, List.contains_nil, List.contains_cons, List.elem_nil, beq_self_eq_true, Nat.reduceBEq, Bool.or_false, Bool.or_true, Bool.true_or, Bool.false_or, Bool.not_true, Bool.not_false, Bool.false_eq_true, if_true, if_false, St.put, Int.reduceLT, Int.reduceLE, Int.reduceEq, Int.reduceToNat, hp, e1, e1b, e2, hat.get, g2, hat.live, hil, t0, a0, a1, f0, f1, hfl, hd1, hd2, hx, hq40, hq41, hL, rowL_rep, hcut, hco, hbl, hln2, hs1, hs2, Nat.zero_mul, Nat.zero_add, hl1, hl2, hr1, hr2, hn1]) | ((with_reducible apply isTKs); apply TK_step rfl rfl; (focus ((repeat (apply evCons; (focus (apply evZ_mk0; (focus rfl); (focus rfl); (focus rfl); rotate_left 3; (focus (simp only [go_sem, fillZ, pr, List.getD_cons_zero, List.getD_cons_succ, List.getD_nil, ls0, opnd, stay, anyL, clo, List.map_cons, List.map_nil, List.zip_cons_cons, List.zip_nil_left, List.zip_nil_right, List.append_nil, List.nil_append, List.cons_append, List.foldl_cons, List.foldl_nil, List.filter_cons, List.filter_nil, List.contains_nil, List.contains_cons, List.elem_nil, beq_self_eq_true, Nat.reduceBEq, Bool.or_false, Bool.or_true, Bool.true_or, Bool.false_or, Bool.not_true, Bool.not_false, Bool.false_eq_true, if_true, if_false, St.put, Int.reduceLT, Int.reduceLE, Int.reduceEq, Int.reduceToNat, hp, e1, e1b, e2, hat.get, g2, hat.live, hil, t0, a0, a1, f0, f1, hfl, hd1, hd2, hx, hq40, hq41, hL, rowL_rep, hcut, hco, hbl, hln2, hs1, hs2, Nat.zero_mul, Nat.zero_add, hl1, hl2, hr1, hr2, hn1]; try first | with_reducible rfl | ((repeat' apply And.intro) <;> first | omega | with_reducible rfl | trivial | rfl))); (all_goals try first | (simp [go_sem, hx, Int.reduceLT, Int.reduceLE, Int.reduceEq, Int.reduceToNat, hp, e1, e1b, e2, hat.get, g2, hat.live, hil, t0, a0, a1, f0, f1, hfl, hd1, hd2, hx, hq40, hq41, hL, rowL_rep, hcut, hco, hbl, hln2, hs1, hs2, Nat.zero_mul, Nat.zero_add, hl1, hl2, hr1, hr2, hn1]; done) | (intro e; first | (cases e; done) | (cases e; exact absurd (by assumption : V.solid .any = true) (by decide))) | (simp [go_sem, fillZ, pr, List.getD_cons_zero, List.getD_cons_succ, List.getD_nil, ls0, opnd, stay, anyL, clo, List.map_cons, List.map_nil, List.zip_cons_cons, List.zip_nil_left, List.zip_nil_right, List.append_nil, List.nil_append, List.cons_append, List.foldl_cons, List.foldl_nil, List.filter_cons, List.filter_nil, List.contains_nil, List.contains_cons, List.elem_nil, beq_self_eq_true, Nat.reduceBEq, Bool.or_false, Bool.or_true, Bool.true_or, Bool.false_or, Bool.not_true, Bool.not_false, Bool.false_eq_true, if_true, if_false, St.put]; done)))))); exact evNil)); simp only [fillZ, pr, List.getD_cons_zero, List.getD_cons_succ, List.getD_nil, ls0, opnd, stay, anyL, clo, List.map_cons, List.map_nil, List.zip_cons_cons, List.zip_nil_left, List.zip_nil_right, List.append_nil, List.nil_append, List.cons_append, List.foldl_cons, List.foldl_nil, List.filter_cons, List.filter_nil, List.contains_nil, List.contains_cons, List.elem_nil, beq_self_eq_true, Nat.reduceBEq, Bool.or_false, Bool.or_true, Bool.true_or, Bool.false_or, Bool.not_true, Bool.not_false, Bool.false_eq_true, if_true, if_false, St.put]) | ((with_reducible apply isTKn); apply TK_nil; (focus ((repeat (apply evCons; (focus (apply evZ_mk0; (focus rfl); (focus rfl); (focus rfl); rotate_left 3; (focus (simp only [go_sem, fillZ, pr, List.getD_cons_zero, List.getD_cons_succ, List.getD_nil, ls0, opnd, stay, anyL, clo, List.map_cons, List.map_nil, List.zip_cons_cons, List.zip_nil_left, List.zip_nil_right, List.append_nil, List.nil_append, List.cons_append, List.foldl_cons, List.foldl_nil, List.filter_cons, List.filter_nil, List.contains_nil, List.contains_cons, List.elem_nil, beq_self_eq_true, Nat.reduceBEq, Bool.or_false, Bool.or_true, Bool.true_or, Bool.false_or, Bool.not_true, Bool.not_false, Bool.false_eq_true, if_true, if_false, St.put, Int.reduceLT, Int.reduceLE, Int.reduceEq, Int.reduceToNat, hp, e1, e1b, e2, hat.get, g2, hat.live, hil, t0, a0, a1, f0, f1, hfl, hd1, hd2, hx, hq40, hq41, hL, rowL_rep, hcut, hco, hbl, hln2, hs1, hs2, Nat.zero_mul, Nat.zero_add, hl1, hl2, hr1, hr2, hn1]; try first | with_reducible rfl | ((repeat' apply And.intro) <;> first | omega | with_reducible rfl | trivial | rfl))); (all_goals try first | (simp [go_sem, hx, Int.reduceLT, Int.reduceLE, Int.reduceEq, Int.reduceToNat, hp, e1, e1b, e2, hat.get, g2, hat.live, hil, t0, a0, a1, f0, f1, hfl, hd1, hd2, hx, hq40, hq41, hL, rowL_rep, hcut, hco, hbl, hln2, hs1, hs2, Nat.zero_mul, Nat.zero_add, hl1, hl2, hr1, hr2, hn1]; done) | (intro e; first | (cases e; done) | (cases e; exact absurd (by assumption : V.solid .any = true) (by decide))) | (simp [go_sem, fillZ, pr, List.getD_cons_zero, List.getD_cons_succ, List.getD_nil, ls0, opnd, stay, anyL, clo, List.map_cons, List.map_nil, List.zip_cons_cons, List.zip_nil_left, List.zip_nil_right, List.append_nil, List.nil_append, List.cons_append, List.foldl_cons, List.foldl_nil, List.filter_cons, List.filter_nil, List.contains_nil, List.contains_cons, List.elem_nil, beq_self_eq_true, Nat.reduceBEq, Bool.or_false, Bool.or_true, Bool.true_or, Bool.false_or, Bool.not_true, Bool.not_false, Bool.false_eq_true, if_true, if_false, St.put]; done)))))); exact evNil)); try simp only [go_sem, fillZ, pr, List.getD_cons_zero, List.getD_cons_succ, List.getD_nil, ls0, opnd, stay, anyL, clo, List.map_cons, List.map_nil, List.zip_cons_cons, List.zip_nil_left, List.zip_nil_right, List.append_nil, List.nil_append, List.cons_append, List.foldl_cons, List.foldl_nil, List.filter_cons, List.filter_nil, List.contains_nil, List.contains_cons, List.elem_nil, beq_self_eq_true, Nat.reduceBEq, Bool.or_false, Bool.or_true, Bool.true_or, Bool.false_or, Bool.not_true, Bool.not_false, Bool.false_eq_true, if_true, if_false, St.put, Int.reduceLT, Int.reduceLE, Int.reduceEq, Int.reduceToNat, hp, e1, e1b, e2, hat.get, g2, hat.live, hil, t0, a0, a1, f0, f1, hfl, hd1, hd2, hx, hq40, hq41, hL, rowL_rep, hcut, hco, hbl, hln2, hs1, hs2, Nat.zero_mul, Nat.zero_add, hl1, hl2, hr1, hr2, hn1]) | ((with_reducible refine And.intro ?_ ?_); first | (with_reducible rfl) | assumption | (simp only [go_sem]; done)))
  refine ret_one hq hw _ (.inl rfl) 0 rfl (by simp [go_sem, (flat_rowL .u16 12).lts]) (.t [.s H.length 0 (l.length + 1) (.u 0), .v (.int .i64 0)]) (by simp [go_sem] <;> rfl) ?_
  simp [go_sem, hgl, gapF, insL, List.flatMap_append, List.flatMap_cons, conc, concs, upσ, Cap.val]
  omega
end Go.Proofs.YtaekjojblkhfdaaGreat
namespace Go.Proofs.YtaekjojblkhfdaaGreat
open Go Go.Sx
theorem mem_ins {l : List (Nat → Int)} {i : Nat} {f g : Nat → Int} (h : g ∈ insL l i f) : g = f ∨ g ∈ l := by
  unfold insL at h
  rcases List.mem_append.1 h with h | h
  · exact .inr (List.mem_of_mem_take h)
  · rcases List.mem_cons.1 h with h | h
    · exact .inl h
    · exact .inr (List.mem_of_mem_drop h)
theorem gapF_12 {l : List (Nat → Int)} (hF : ∀ f ∈ l, F12 f) (q : Nat) : ∀ f ∈ gapF l q, F12 f := fun f hf => by
  rcases mem_ins hf with rfl | hf
  · exact morphF_12 (pg_12 hF q) _
  · exact hF f hf
/-- What the law knows of the book's jumps. -/
structure GapP (b : List (Nat → Int)) (J K : List Int) (G : Nat) (W : Int) : Prop where
  jl : J = jl b (b.length - 1)
  kl : K = Go.Proofs.YtaekjojblkhfdaaGreat.jl (gapF b G) b.length
  jr : ∀ x ∈ J, 0 ≤ x ∧ x ≤ 144
  jn : J.length = b.length - 1
  kn : K.length = b.length
  gn : G + 1 < b.length
  jg : nth0 J G = hiT J J.length
  wg : W = hiT J J.length - sndT J G J.length
  kr : ∀ j, j < b.length → nth0 K j ≤ hiT J J.length
  kg : nth0 K G + nth0 K (G + 1) = hiT J J.length
theorem gapP {b : List (Nat → Int)} (hF : ∀ f ∈ b, F12 f) (h2 : 2 ≤ b.length) : GapP b (jl b (b.length - 1)) (jl (gapF b (gjP b)) b.length) (gjP b) (wgV b) := by
  have hG := gjP_lt h2
  have hw := wide_high h2
  have hj := jl_len b (b.length - 1)
  have hk := jl_len (gapF b (gjP b)) b.length
  have hn : ∀ j, j < b.length → nth0 (jl (gapF b (gjP b)) b.length) j = jmp (gapF b (gjP b)) j (j + 1) := fun j hj => by
    rw [nth0_at (by rw [hk]; exact hj), jl_at (by omega)]
  refine ⟨rfl, rfl, jl_range, hj, hk, hG, ?_, ?_, fun j hjb => ?_, ?_⟩
  · rw [hj]; exact hw.1
  · rw [hj]; unfold wgV; rw [hw.2]
  · rw [hj, hn j hjb]; exact gap_le hF hG hjb
  · have hs := (mid_sum hF (gjP b)).1
    have e1 := hw.1
    rw [nth0_at (by omega), jl_at (by omega)] at e1
    rw [hj, hn _ (by omega), hn _ (by omega), gap_jmp hG, gap_jmp hG, if_neg (by omega), if_pos rfl, if_neg (by omega), if_neg (by omega), if_pos rfl, hs]
    exact e1
/-- What the law knows of the strangest page. -/
structure StrP (b : List (Nat → Int)) (S : Nat) (M : Int) : Prop where
  lt : S < b.length
  at_ : stg b S = M
  mx : ∀ j, j < b.length → stg b j ≤ M ∧ (j < S → stg b j < M)
theorem strP {b : List (Nat → Int)} (h2 : 2 ≤ b.length) : StrP b (bS b (b.length - 1)) (stg b (bS b (b.length - 1))) := by
  have := bS_le b (b.length - 1)
  exact ⟨by omega, rfl, fun j hj => bS_max b _ j (by omega)⟩
theorem P6OrderE {H : List Blk} {cv : V} {l : List Int} {n : Nat} (hr : Rd H cv u8C l) (h8 : B8 l) (hll : l.length ≤ 4096) (hn : n ≤ 6) :
    Cal Tryz.prog 6 [cv, .v (.int .i64 n)] H fun u H' => ∃ o : List Int, OrdP o n ∧ u = .s H.length 0 n (.u 0) ∧ H' = H ++ [⟨o.flatMap i64C, 2, .own 1⟩] := by
  refine (P6Order hr h8 hll (by omega)).mono ?_
  rintro _ _ ⟨o, ho, rfl, rfl⟩
  exact ⟨o, ho, by rw [ho.len], rfl⟩
theorem orC_12 {b : List (Nat → Int)} {o : List Int} (h12 : ∀ f ∈ b, F12 f) (hb6 : b.length ≤ 6) (ho : OrdP o b.length) : orC b o = 0 := by
  unfold orC
  rw [if_pos (okB_len h12 (by omega)), if_pos (isOrd_iff.2 ho)]
theorem strI {H : List Blk} {v : V} {b : List (Nat → Int)} (h : Rd H v (rowL .u16 12) b) (hb6 : b.length ≤ 6) (h12 : ∀ f ∈ b, F12 f) (h2 : 2 ≤ b.length) : Cal Tryz.prog 14 [v] H fun u H' => u = .t [.v (.int .i64 (bS b (b.length - 1) : Nat)), .v (.int .i64 (stg b (bS b (b.length - 1)))), .v (.int .i64 0)] ∧ H' = H := by
  have e : strC b = 0 := by unfold strC; rw [if_pos (okB_len h12 (by omega)), if_neg (by omega)]
  have := implStrangePage h (by omega) fun f hf => (h12 f hf).r16
  rw [e, if_pos rfl, if_pos rfl] at this; exact this
theorem strI6 {H : List Blk} {v : V} {b : List (Nat → Int)} (h : Rd H v (rowL .u16 12) b) (hb6 : b.length ≤ 6) (h12 : ∀ f ∈ b, F12 f) (h2 : b.length < 2) : Cal Tryz.prog 14 [v] H fun u H' => u = .t [.v (.int .i64 0), .v (.int .i64 0), .v (.int .i64 6)] ∧ H' = H := by
  have e : strC b = 6 := by unfold strC; rw [if_pos (okB_len h12 (by omega)), if_pos h2]
  have := implStrangePage h (by omega) fun f hf => (h12 f hf).r16
  rw [e, if_neg (by decide), if_neg (by decide)] at this; exact this
theorem strS {H : List Blk} {v : V} {b : List (Nat → Int)} (h : Rd H v (rowL .u16 12) b) (hb6 : b.length ≤ 6) (h12 : ∀ f ∈ b, F12 f) (h2 : 2 ≤ b.length) : Cal Tryz.prog 15 [v] H fun u H' => u = .t [.v (.int .i64 (bS b (b.length - 1) : Nat)), .v (.int .i64 (stg b (bS b (b.length - 1)))), .v (.int .i64 0)] ∧ H' = H := by
  have e : strC b = 0 := by unfold strC; rw [if_pos (okB_len h12 (by omega)), if_neg (by omega)]
  have := specStrangePage h (by omega) fun f hf => (h12 f hf).r16
  rw [e, if_pos rfl, if_pos rfl] at this; exact this
theorem strS6 {H : List Blk} {v : V} {b : List (Nat → Int)} (h : Rd H v (rowL .u16 12) b) (hb6 : b.length ≤ 6) (h12 : ∀ f ∈ b, F12 f) (h2 : b.length < 2) : Cal Tryz.prog 15 [v] H fun u H' => u = .t [.v (.int .i64 0), .v (.int .i64 0), .v (.int .i64 6)] ∧ H' = H := by
  have e : strC b = 6 := by unfold strC; rw [if_pos (okB_len h12 (by omega)), if_pos h2]
  have := specStrangePage h (by omega) fun f hf => (h12 f hf).r16
  rw [e, if_neg (by decide), if_neg (by decide)] at this; exact this
theorem widI {H : List Blk} {v : V} {b : List (Nat → Int)} (h : Rd H v (rowL .u16 12) b) (hb6 : b.length ≤ 6) (h12 : ∀ f ∈ b, F12 f) (h2 : 2 ≤ b.length) : Cal Tryz.prog 16 [v] H fun u H' => u = .t [.v (.int .i64 (gjP b : Nat)), .v (.int .i64 (wgV b)), .v (.int .i64 0)] ∧ H' = H := by
  have e : wgC b = 0 := by unfold wgC; rw [if_pos (okB_len h12 (by omega)), if_neg (by omega)]
  have := implWidestGap h (fun f hf => (h12 f hf).r16) (by omega)
  rw [e, if_pos rfl, if_pos rfl] at this; exact this
theorem widI6 {H : List Blk} {v : V} {b : List (Nat → Int)} (h : Rd H v (rowL .u16 12) b) (hb6 : b.length ≤ 6) (h12 : ∀ f ∈ b, F12 f) (h2 : b.length < 2) : Cal Tryz.prog 16 [v] H fun u H' => u = .t [.v (.int .i64 0), .v (.int .i64 0), .v (.int .i64 6)] ∧ H' = H := by
  have e : wgC b = 6 := by unfold wgC; rw [if_pos (okB_len h12 (by omega)), if_pos h2]
  have := implWidestGap h (fun f hf => (h12 f hf).r16) (by omega)
  rw [e, if_neg (by decide), if_neg (by decide)] at this; exact this
theorem widS {H : List Blk} {v : V} {b : List (Nat → Int)} (h : Rd H v (rowL .u16 12) b) (hb6 : b.length ≤ 6) (h12 : ∀ f ∈ b, F12 f) (h2 : 2 ≤ b.length) : Cal Tryz.prog 17 [v] H fun u H' => u = .t [.v (.int .i64 (gjP b : Nat)), .v (.int .i64 (wgV b)), .v (.int .i64 0)] ∧ H' = H := by
  have e : wgC b = 0 := by unfold wgC; rw [if_pos (okB_len h12 (by omega)), if_neg (by omega)]
  have := specWidestGap h (fun f hf => (h12 f hf).r16) (by omega)
  rw [e, if_pos rfl, if_pos rfl] at this; exact this
theorem widS6 {H : List Blk} {v : V} {b : List (Nat → Int)} (h : Rd H v (rowL .u16 12) b) (hb6 : b.length ≤ 6) (h12 : ∀ f ∈ b, F12 f) (h2 : b.length < 2) : Cal Tryz.prog 17 [v] H fun u H' => u = .t [.v (.int .i64 0), .v (.int .i64 0), .v (.int .i64 6)] ∧ H' = H := by
  have e : wgC b = 6 := by unfold wgC; rw [if_pos (okB_len h12 (by omega)), if_pos h2]
  have := specWidestGap h (fun f hf => (h12 f hf).r16) (by omega)
  rw [e, if_neg (by decide), if_neg (by decide)] at this; exact this
theorem jumpsS {H : List Blk} {v : V} {l : List (Nat → Int)} {J : List Int} (h : Rd H v (rowL .u16 12) l) (h12 : ∀ f ∈ l, F12 f) (hl : l.length ≤ 40) (hJ : J = jl l (l.length - 1)) :
    Cal Tryz.prog 22 [v] H fun u H' => u = .t [.s H.length 0 J.length (.u 0), .v (.int .i64 0)] ∧ H' = H ++ [⟨J.flatMap i64C, 2, .own 1⟩] := by
  subst hJ; rw [jl_len]; exact specJumpsOf h h12 hl
theorem jumpsI {H : List Blk} {v : V} {l : List (Nat → Int)} {J : List Int} (h : Rd H v (rowL .u16 12) l) (h12 : ∀ f ∈ l, F12 f) (hl : l.length ≤ 40) (hJ : J = jl l (l.length - 1)) :
    Cal Tryz.prog 23 [v] H fun u H' => u = .t [.s H.length 0 J.length (.u 0), .v (.int .i64 0)] ∧ H' = H ++ [⟨J.flatMap i64C, 2, .own 1⟩] := by
  subst hJ; rw [jl_len]; exact implJumpsOf h h12 hl
theorem gapC0 {b : List (Nat → Int)} {q : Nat} (h12 : ∀ f ∈ b, F12 f) (hb6 : b.length ≤ 6) (hq : q + 1 < b.length) : gapC b q = 0 := by
  unfold gapC pageC
  rw [if_pos (okB_len h12 (by omega)), if_pos (by simp; omega), if_neg (by omega), if_neg (by omega)]
theorem gapI {H : List Blk} {v : V} {b : List (Nat → Int)} {q : Nat} {L : List (Nat → Int)} (h : Rd H v (rowL .u16 12) b) (h12 : ∀ f ∈ b, F12 f) (hb6 : b.length ≤ 6) (hq : q + 1 < b.length) (hL : L = gapF b q) :
    Cal Tryz.prog 20 [v, .v (.int .i64 q)] H fun u H' => u = .t [.s H.length 0 (b.length + 1) (.u 0), .v (.int .i64 0)] ∧ H' = H ++ [⟨L.flatMap (rowL .u16 12), 63, .own 12⟩] := by
  subst hL
  rw [← gapF_len hq]
  exact implFillGap_ok h (fun f hf => (h12 f hf).r16) (gapC0 h12 hb6 hq)
theorem gapS {H : List Blk} {v : V} {b : List (Nat → Int)} {q : Nat} {L : List (Nat → Int)} (h : Rd H v (rowL .u16 12) b) (hk : KG H v b) (h12 : ∀ f ∈ b, F12 f) (hb6 : b.length ≤ 6) (hq : q + 1 < b.length) (hL : L = gapF b q) :
    Cal Tryz.prog 21 [v, .v (.int .i64 q)] H fun u H' => u = .t [.s H.length 0 (b.length + 1) (.u 0), .v (.int .i64 0)] ∧ H' = H ++ [⟨L.flatMap (rowL .u16 12), 63, .own 12⟩] := by
  subst hL
  rw [← gapF_len hq]
  exact specFillGap_okU h hk (fun f hf => (h12 f hf).r16) (gapC0 h12 hb6 hq)
theorem tfI {H : List Blk} {v w : V} {b : List (Nat → Int)} {o : List Int} (h : Rd H v (rowL .u16 12) b) (h2 : Rd H w i64C o) (h12 : ∀ f ∈ b, F12 f) (hb6 : b.length ≤ 6) (ho : OrdP o b.length) :
    Cal Tryz.prog 7 [v, w] H fun u H' => u = .t [.s H.length 0 (tfO o).length (.u 0), .v (.int .i64 0)] ∧ H' = H ++ [⟨(tfO o).flatMap (rowL .i64 2), 41, .own 2⟩] :=
  implTurnsFor_all h h2 (by omega) (by rw [ho.len]; omega) (orC_12 h12 hb6 ho)
theorem tfS_ {H : List Blk} {v w : V} {b : List (Nat → Int)} {o : List Int} (h : Rd H v (rowL .u16 12) b) (h2 : Rd H w i64C o) (hk : KU H w o) (h12 : ∀ f ∈ b, F12 f) (hb6 : b.length ≤ 6) (ho : OrdP o b.length) :
    Cal Tryz.prog 8 [v, w] H fun u H' => u = .t [.s H.length 0 (tfO o).length (.u 0), .v (.int .i64 0)] ∧ H' = H ++ [⟨(tfO o).flatMap (rowL .i64 2), 41, .own 2⟩] :=
  specTurnsFor_okU h h2 hk (by omega) (by rw [ho.len]; omega) (orC_12 h12 hb6 ho)
theorem tpI {H : List Blk} {w : V} {i : Nat} {b : List (Nat → Int)} {o : List Int} (hb : H[i]? = some ⟨b.flatMap (rowL .u16 12), 63, .own 12⟩) (h2 : Rd H w (rowL .i64 2) (tfO o)) (h12 : ∀ f ∈ b, F12 f) (hb6 : b.length ≤ 6) (ho : OrdP o b.length) :
    Cal Tryz.prog 9 [.s i 0 b.length (.u 0), w] H fun u H' => u = .t [.s H.length 0 b.length (.u 0), .v (.int .i64 0)] ∧ H' = H ++ [⟨(inO b o).flatMap (rowL .u16 12), 63, .own 12⟩] := by
  have hv := tfO_valid ho
  have := implTurnPages_okF (r := []) (c := .u 0) (by rw [List.append_nil]; exact hb) h2 (by omega) (okB_len h12 (by omega)) (by omega) hv.1
  rwa [turns_order ho, inO_len, ho.len] at this
theorem roI {H : List Blk} {v w : V} {b : List (Nat → Int)} {o : List Int} (h : Rd H v (rowL .u16 12) b) (h2 : Rd H w i64C o) (h12 : ∀ f ∈ b, F12 f) (hb6 : b.length ≤ 6) (ho : OrdP o b.length) :
    Cal Tryz.prog 10 [v, w] H fun u H' => u = .t [.s H.length 0 b.length (.u 0), .v (.int .i64 0)] ∧ H' = H ++ [⟨(inO b o).flatMap (rowL .u16 12), 63, .own 12⟩] := by
  have := implReorderBook_ok h h2 (by omega) (by rw [ho.len]; omega) (orC_12 h12 hb6 ho)
  rwa [inO_len, ho.len] at this
theorem roS {H : List Blk} {v w : V} {b : List (Nat → Int)} {o : List Int} (h : Rd H v (rowL .u16 12) b) (h2 : Rd H w i64C o) (hk : KU H w o) (h12 : ∀ f ∈ b, F12 f) (hb6 : b.length ≤ 6) (ho : OrdP o b.length) :
    Cal Tryz.prog 11 [v, w] H fun u H' => u = .t [.s H.length 0 b.length (.u 0), .v (.int .i64 0)] ∧ H' = H ++ [⟨(inO b o).flatMap (rowL .u16 12), 63, .own 12⟩] := by
  have := specReorderBook_okU h h2 hk (by omega) (by rw [ho.len]; omega) (orC_12 h12 hb6 ho)
  rwa [inO_len, ho.len] at this
theorem tp2I {H : List Blk} {w : V} {i p q : Nat} {b : List (Nat → Int)} (hb : H[i]? = some ⟨b.flatMap (rowL .u16 12), 63, .own 12⟩) (h2 : Rd H w (rowL .i64 2) [pairF p q, pairF p q]) (h12 : ∀ f ∈ b, F12 f) (hb6 : b.length ≤ 6) (hpq : p ≤ q) (hq : q < b.length) :
    Cal Tryz.prog 9 [.s i 0 b.length (.u 0), w] H fun u H' => u = .t [.s H.length 0 b.length (.u 0), .v (.int .i64 0)] ∧ H' = H ++ [⟨b.flatMap (rowL .u16 12), 63, .own 12⟩] := by
  have hv : ∀ f ∈ [pairF p q, pairF p q], validT b.length f = true := fun f hf => by
    have : f = pairF p q := by simpa using hf
    subst this
    rw [validT_iff]
    show (0 : Int) ≤ (p : Int) ∧ (p : Int) ≤ (q : Int) ∧ (q : Int) < (b.length : Int)
    omega
  have := implTurnPages_okF (r := []) (c := .u 0) (by rw [List.append_nil]; exact hb) h2 (by omega) (okB_len h12 (by omega)) (by simp) hv
  have e : tpL b [pairF p q, pairF p q] = b := by
    show turnL (turnL b ((p : Int)).toNat ((q : Int)).toNat) ((p : Int)).toNat ((q : Int)).toNat = b
    rw [Int.toNat_natCast, Int.toNat_natCast]
    exact turn_turn hpq hq
  rwa [e] at this
theorem mendC6 {b : List (Nat → Int)} {p : Nat} (h12 : ∀ f ∈ b, F12 f) (hb6 : b.length ≤ 6) (hp : p = 0 ∨ p + 1 = b.length) (hpl : p < b.length) : mendC b p = 6 := by
  unfold mendC pageC
  rw [if_pos (okB_len h12 (by omega)), if_pos (by simp; omega), if_pos (by omega)]
theorem mendC0 {b : List (Nat → Int)} {p : Nat} (h12 : ∀ f ∈ b, F12 f) (hb6 : b.length ≤ 6) (hpl : p < b.length) : pageC b p = 0 := by
  unfold pageC
  rw [if_pos (okB_len h12 (by omega)), if_pos (by simp; omega)]
theorem mendI6 {H : List Blk} {v : V} {b : List (Nat → Int)} {p : Nat} (h : Rd H v (rowL .u16 12) b) (h12 : ∀ f ∈ b, F12 f) (hb6 : b.length ≤ 6) (hp : p = 0 ∨ p + 1 = b.length) (hpl : p < b.length) :
    Cal Tryz.prog 24 [v, .v (.int .i64 p)] H fun u H' => u = .t [.v (.slice none 0 0), .v (.int .i64 6)] ∧ H' = H := by
  have e := mendC6 h12 hb6 hp hpl
  have := implMendPage_err (p := (p : Int)) h (by omega) (by rw [e]; decide)
  rwa [e] at this
theorem mendS6 {H : List Blk} {v : V} {b : List (Nat → Int)} {p : Nat} (h : Rd H v (rowL .u16 12) b) (h12 : ∀ f ∈ b, F12 f) (hb6 : b.length ≤ 6) (hp : p = 0 ∨ p + 1 = b.length) (hpl : p < b.length) :
    Cal Tryz.prog 25 [v, .v (.int .i64 p)] H fun u H' => u = .t [.s H.length 0 0 (.u 0), .v (.int .i64 6)] ∧ H' = H ++ [⟨[], 63, .own 12⟩] := by
  have e := mendC6 h12 hb6 hp hpl
  have := specMendPage_err (p := (p : Int)) h (by omega) (by rw [e]; decide)
  rwa [e] at this
theorem mendI0 {H : List Blk} {v : V} {b L : List (Nat → Int)} {p : Nat} (h : Rd H v (rowL .u16 12) b) (h12 : ∀ f ∈ b, F12 f) (hb6 : b.length ≤ 6) (hp : 0 < p) (hpl : p + 1 < b.length) (hL : L = mendF b (p - 1)) :
    Cal Tryz.prog 24 [v, .v (.int .i64 p)] H fun u H' => u = .t [.s H.length 0 b.length (.u 0), .v (.int .i64 0)] ∧ H' = H ++ [⟨L.flatMap (rowL .u16 12), 63, .own 12⟩] := by
  obtain ⟨q, rfl⟩ : ∃ q, p = q + 1 := ⟨p - 1, by omega⟩
  subst hL
  have := implMendPage_ok (q := q) h (by omega) (mendC0 (p := q + 1) h12 hb6 (by omega)) (by omega)
  rw [mend_len] at this
  exact this
theorem mendS0 {H : List Blk} {v : V} {b L : List (Nat → Int)} {p : Nat} (h : Rd H v (rowL .u16 12) b) (h12 : ∀ f ∈ b, F12 f) (hb6 : b.length ≤ 6) (hp : 0 < p) (hpl : p + 1 < b.length) (hL : L = mendF b (p - 1)) :
    Cal Tryz.prog 25 [v, .v (.int .i64 p)] H fun u H' => u = .t [.s H.length 0 b.length (.u 0), .v (.int .i64 0)] ∧ H' = H ++ [⟨L.flatMap (rowL .u16 12), 63, .own 12⟩] := by
  obtain ⟨q, rfl⟩ : ∃ q, p = q + 1 := ⟨p - 1, by omega⟩
  subst hL
  have := specMendPage_ok (q := q) h (by omega) (mendC0 (p := q + 1) h12 hb6 (by omega)) (by omega)
  rw [mend_len] at this
  exact this
def restC : Nat → Code → Code
  | n + 1, .seq _ b => restC n b
  | _, c => c
def graftC : Nat → Code → Code → Code
  | n + 1, .seq a b, t => .seq a (graftC n b t)
  | _, _, t => t
theorem graft_rest : ∀ (n : Nat) (c : Code), graftC n c (restC n c) = c
  | 0, c => by unfold graftC restC; rfl
  | n + 1, c => by
    cases c <;> simp [graftC, restC]
    exact graft_rest n _
/-- The rest of a piece of code, for itself. -/
theorem WK_cut {P : Program} {x : Cx} {k : List Kt} {s : St} (n : Nat) {c T : Code} (hT : T = restC n c) (h : WK P x k (graftC n c T) s) : WK P x k c s := by
  rw [hT, graft_rest] at h; exact h
end Go.Proofs.YtaekjojblkhfdaaGreat
