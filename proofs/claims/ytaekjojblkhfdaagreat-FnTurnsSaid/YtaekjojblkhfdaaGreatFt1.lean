/- Contracts of functions of the translated program, by the walk. -/
import Derived.Test.YtaekjojblkhfdaaGreatIn2
import Derived.Test.YtaekjojblkhfdaaGreatC2
import Derived.Test.YtaekjojblkhfdaaGreatFt0
import Derived.Test.YtaekjojblkhfdaaGreatD2
set_option linter.unusedVariables false
set_option linter.unusedSimpArgs false
set_option maxRecDepth 8000
set_option maxHeartbeats 16000000
namespace Go.Proofs.YtaekjojblkhfdaaGreat
open Go Go.Sx
def gapC (l : List (Nat → Int)) (p : Int) : Int := if pageC l p = 0 then (if p + 1 = l.length then 6 else if l.length = 40 then 3 else 0) else pageC l p
theorem gapC_ok {l : List (Nat → Int)} {p : Int} (h : gapC l p = 0) : pageC l p = 0 ∧ okB l = true ∧ (0 ≤ p ∧ p + 1 < l.length) ∧ l.length < 40 := by
  unfold gapC at h
  by_cases e : pageC l p = 0
  · rw [if_pos e] at h
    have e0 := e
    unfold pageC at e
    by_cases hb : okB l = true
    · rw [if_pos hb] at e
      have h40 := (okB_iff.1 hb).1
      split at e
      · rename_i h2
        simp only [Bool.and_eq_true, decide_eq_true_eq] at h2
        split at h
        · cases h
        · split at h
          · cases h
          · exact ⟨e0, hb, by omega, by omega⟩
      · cases e
    · rw [if_neg hb] at e; cases e
  · rw [if_neg e] at h; exact absurd h e
/-- A book with a page between two of its pages. -/
def gapF (l : List (Nat → Int)) (q : Nat) : List (Nat → Int) := insL l (q + 1) (morphF (pg l q) (pg l (q + 1)) (morphN (pg l q) (pg l (q + 1)) 1 2))
theorem gapF_len {l : List (Nat → Int)} {q : Nat} (h : q + 1 < l.length) : (gapF l q).length = l.length + 1 := insL_len _ (by omega)
theorem implFillGap_ok {H : List Blk} {v : V} {l : List (Nat → Int)} {q : Nat} (h : Rd H v (rowL .u16 12) l) (hR : ∀ f ∈ l, R16 f) (hc : gapC l q = 0) :
    Cal Tryz.prog 20 [v, .v (.int .i64 q)] H fun u H' => u = .t [.s H.length 0 (gapF l q).length (.u 0), .v (.int .i64 0)] ∧ H' = H ++ [⟨(gapF l q).flatMap (rowL .u16 12), 63, .own 12⟩] := by
  have hsol := h.solid
  have hL := h.lenV (P := Tryz.prog) slTy25
  obtain ⟨hp, hB, hr, h40⟩ := gapC_ok hc
  have hF := okB_12 hB hR
  have hf0 := pg_12 hF q
  have hf1 := pg_12 hF (q + 1)
  obtain ⟨i, off, c, b, rfl, hat, hf⟩ := h.full (by omega)
  have hil := hat.lt
  have hfl := Flat.flen (flat_rowL .u16 12) l
  have g2 : ∀ L : List Blk, (H ++ L)[i]? = some b := fun L => get_app hat.get
  have e1 : ((q : Int) = (l.length : Int) - 1) = False := eq_false (by omega)
  have e1b : ((q : Int) + 1 = (l.length : Int)) = False := eq_false (by omega)
  have e2 : ((l.length : Int) = 40) = False := eq_false (by omega)
  have t0 : ((q : Int) + 1).toNat = q + 1 := by omega
  have a0 := hat.elem (rowL .u16 12) 12 hz12 (show q < l.length by omega)
  have a1 := hat.elem (rowL .u16 12) 12 hz12 (show q + 1 < l.length by omega)
  have f0 := hat.fits (rowL .u16 12) 12 hz12 (show q < l.length by omega) (by omega)
  have f1 := hat.fits (rowL .u16 12) 12 hz12 (show q + 1 < l.length by omega) (by omega)
  rw [← pg_at] at a0 a1
  have hd1 : (H.length + 1 = H.length) = False := eq_false (by omega)
  have hd2 : (i = H.length) = False := eq_false (by omega)
  have hq40 : ((q : Int) < (l.length : Int)) = True := eq_true (by omega)
  have hq41 : ((q : Int) + 1 < (l.length : Int)) = True := eq_true (by omega)
  refine cal_fn 38 mixed Tryz.func20 Tryz.ntmps20 Tryz.results20 rfl rfl rfl fun hw cx hx hq => ?_
  repeat (first | (simp only [go_sem, Int.reduceLT, Int.reduceLE, Int.reduceEq, Int.reduceToNat, hp, e1, e1b, e2, hat.get, g2, hat.live, hil, t0, a0, a1, f0, f1, hfl, hd1, hd2, hx, hq40, hq41, hL, rowL_rep]) | ((with_reducible refine And.intro ?_ ?_); omega) | ((with_reducible refine isSK ?_); first | (refine call_ret (checkPage h (by omega)) (by simp only [go_sem, Int.reduceLT, Int.reduceLE, Int.reduceEq, Int.reduceToNat, hp, e1, e1b, e2, hat.get, g2, hat.live, hil, t0, a0, a1, f0, f1, hfl, hd1, hd2, hx, hq40, hq41, hL, rowL_rep]) ?_)) | ((with_reducible refine isMC ?_); first | (refine mcall_ret (checkPage h (by omega)) (by simp only [go_sem, Int.reduceLT, Int.reduceLE, Int.reduceEq, Int.reduceToNat, hp, e1, e1b, e2, hat.get, g2, hat.live, hil, t0, a0, a1, f0, f1, hfl, hd1, hd2, hx, hq40, hq41, hL, rowL_rep]) (by simp only [go_sem, Int.reduceLT, Int.reduceLE, Int.reduceEq, Int.reduceToNat, hp, e1, e1b, e2, hat.get, g2, hat.live, hil, t0, a0, a1, f0, f1, hfl, hd1, hd2, hx, hq40, hq41, hL, rowL_rep]) ?_)) | ((with_reducible refine exV0 ?_); try simp only [go_sem, fillZ, pr, List.getD_cons_zero, List.getD_cons_succ, List.getD_nil, ls0, opnd, stay, anyL, clo, List.map_cons, List.map_nil, List.zip_cons_cons, List.zip_nil_left, List.zip_nil_right, List.append_nil, List.nil_append, List.cons_append, List.foldl_cons, List.foldl_nil, List.filter_cons, List.filter_nil, List.contains_nil, List.contains_cons, List.elem_nil, beq_self_eq_true, Nat.reduceBEq, Bool.or_false, Bool.or_true, Bool.true_or, Bool.false_or, Bool.not_true, Bool.not_false, Bool.false_eq_true, if_true, if_false, St.put, Int.reduceLT, Int.reduceLE, Int.reduceEq, Int.reduceToNat, hp, e1, e1b, e2, hat.get, g2, hat.live, hil, t0, a0, a1, f0, f1, hfl, hd1, hd2, hx, hq40, hq41, hL, rowL_rep]) | ((with_reducible first | apply exV1 | apply exV2 | apply exV3 | apply exV4 | apply exV5 | apply exV6 | apply exV7 | apply exV8 | apply exV9 | apply exV10 | apply exV11 | apply exV12 | apply exV13 | apply exV14); try simp only [go_sem, fillZ, pr, List.getD_cons_zero, List.getD_cons_succ, List.getD_nil, ls0, opnd, stay, anyL, clo, List.map_cons, List.map_nil, List.zip_cons_cons, List.zip_nil_left, List.zip_nil_right, List.append_nil, List.nil_append, List.cons_append, List.foldl_cons, List.foldl_nil, List.filter_cons, List.filter_nil, List.contains_nil, List.contains_cons, List.elem_nil, beq_self_eq_true, Nat.reduceBEq, Bool.or_false, Bool.or_true, Bool.true_or, Bool.false_or, Bool.not_true, Bool.not_false, Bool.false_eq_true, if_true, if_false, St.put, Int.reduceLT, Int.reduceLE, Int.reduceEq, Int.reduceToNat, hp, e1, e1b, e2, hat.get, g2, hat.live, hil, t0, a0, a1, f0, f1, hfl, hd1, hd2, hx, hq40, hq41, hL, rowL_rep]) | ((with_reducible apply isTKs); apply TK_step rfl rfl; (focus ((repeat (apply evCons; (focus (apply evZ_mk0; (focus rfl); (focus rfl); (focus rfl); rotate_left 3; (focus (simp only [go_sem, fillZ, pr, List.getD_cons_zero, List.getD_cons_succ, List.getD_nil, ls0, opnd, stay, anyL, clo, List.map_cons, List.map_nil, List.zip_cons_cons, List.zip_nil_left, List.zip_nil_right, List.append_nil, List.nil_append, List.cons_append, List.foldl_cons, List.foldl_nil, List.filter_cons, List.filter_nil, List.contains_nil, List.contains_cons, List.elem_nil, beq_self_eq_true, Nat.reduceBEq, Bool.or_false, Bool.or_true, Bool.true_or, Bool.false_or, Bool.not_true, Bool.not_false, Bool.false_eq_true, if_true, if_false, St.put, Int.reduceLT, Int.reduceLE, Int.reduceEq, Int.reduceToNat, hp, e1, e1b, e2, hat.get, g2, hat.live, hil, t0, a0, a1, f0, f1, hfl, hd1, hd2, hx, hq40, hq41, hL, rowL_rep]; try first | with_reducible rfl | ((repeat' apply And.intro) <;> first | omega | with_reducible rfl | trivial | rfl))); (all_goals try first | (simp [go_sem, hx, Int.reduceLT, Int.reduceLE, Int.reduceEq, Int.reduceToNat, hp, e1, e1b, e2, hat.get, g2, hat.live, hil, t0, a0, a1, f0, f1, hfl, hd1, hd2, hx, hq40, hq41, hL, rowL_rep]; done) | (intro e; first | (cases e; done) | (cases e; exact absurd (by assumption : V.solid .any = true) (by decide))) | (simp [go_sem, fillZ, pr, List.getD_cons_zero, List.getD_cons_succ, List.getD_nil, ls0, opnd, stay, anyL, clo, List.map_cons, List.map_nil, List.zip_cons_cons, List.zip_nil_left, List.zip_nil_right, List.append_nil, List.nil_append, List.cons_append, List.foldl_cons, List.foldl_nil, List.filter_cons, List.filter_nil, List.contains_nil, List.contains_cons, List.elem_nil, beq_self_eq_true, Nat.reduceBEq, Bool.or_false, Bool.or_true, Bool.true_or, Bool.false_or, Bool.not_true, Bool.not_false, Bool.false_eq_true, if_true, if_false, St.put]; done)))))); exact evNil)); simp only [fillZ, pr, List.getD_cons_zero, List.getD_cons_succ, List.getD_nil, ls0, opnd, stay, anyL, clo, List.map_cons, List.map_nil, List.zip_cons_cons, List.zip_nil_left, List.zip_nil_right, List.append_nil, List.nil_append, List.cons_append, List.foldl_cons, List.foldl_nil, List.filter_cons, List.filter_nil, List.contains_nil, List.contains_cons, List.elem_nil, beq_self_eq_true, Nat.reduceBEq, Bool.or_false, Bool.or_true, Bool.true_or, Bool.false_or, Bool.not_true, Bool.not_false, Bool.false_eq_true, if_true, if_false, St.put]) | ((with_reducible apply isTKn); apply TK_nil; (focus ((repeat (apply evCons; (focus (apply evZ_mk0; (focus rfl); (focus rfl); (focus rfl); rotate_left 3; (focus (simp only [go_sem, fillZ, pr, List.getD_cons_zero, List.getD_cons_succ, List.getD_nil, ls0, opnd, stay, anyL, clo, List.map_cons, List.map_nil, List.zip_cons_cons, List.zip_nil_left, List.zip_nil_right, List.append_nil, List.nil_append, List.cons_append, List.foldl_cons, List.foldl_nil, List.filter_cons, List.filter_nil, List.contains_nil, List.contains_cons, List.elem_nil, beq_self_eq_true, Nat.reduceBEq, Bool.or_false, Bool.or_true, Bool.true_or, Bool.false_or, Bool.not_true, Bool.not_false, Bool.false_eq_true, if_true, if_false, St.put, Int.reduceLT, Int.reduceLE, Int.reduceEq, Int.reduceToNat, hp, e1, e1b, e2, hat.get, g2, hat.live, hil, t0, a0, a1, f0, f1, hfl, hd1, hd2, hx, hq40, hq41, hL, rowL_rep]; try first | with_reducible rfl | ((repeat' apply And.intro) <;> first | omega | with_reducible rfl | trivial | rfl))); (all_goals try first | (simp [go_sem, hx, Int.reduceLT, Int.reduceLE, Int.reduceEq, Int.reduceToNat, hp, e1, e1b, e2, hat.get, g2, hat.live, hil, t0, a0, a1, f0, f1, hfl, hd1, hd2, hx, hq40, hq41, hL, rowL_rep]; done) | (intro e; first | (cases e; done) | (cases e; exact absurd (by assumption : V.solid .any = true) (by decide))) | (simp [go_sem, fillZ, pr, List.getD_cons_zero, List.getD_cons_succ, List.getD_nil, ls0, opnd, stay, anyL, clo, List.map_cons, List.map_nil, List.zip_cons_cons, List.zip_nil_left, List.zip_nil_right, List.append_nil, List.nil_append, List.cons_append, List.foldl_cons, List.foldl_nil, List.filter_cons, List.filter_nil, List.contains_nil, List.contains_cons, List.elem_nil, beq_self_eq_true, Nat.reduceBEq, Bool.or_false, Bool.or_true, Bool.true_or, Bool.false_or, Bool.not_true, Bool.not_false, Bool.false_eq_true, if_true, if_false, St.put]; done)))))); exact evNil)); try simp only [go_sem, fillZ, pr, List.getD_cons_zero, List.getD_cons_succ, List.getD_nil, ls0, opnd, stay, anyL, clo, List.map_cons, List.map_nil, List.zip_cons_cons, List.zip_nil_left, List.zip_nil_right, List.append_nil, List.nil_append, List.cons_append, List.foldl_cons, List.foldl_nil, List.filter_cons, List.filter_nil, List.contains_nil, List.contains_cons, List.elem_nil, beq_self_eq_true, Nat.reduceBEq, Bool.or_false, Bool.or_true, Bool.true_or, Bool.false_or, Bool.not_true, Bool.not_false, Bool.false_eq_true, if_true, if_false, St.put, Int.reduceLT, Int.reduceLE, Int.reduceEq, Int.reduceToNat, hp, e1, e1b, e2, hat.get, g2, hat.live, hil, t0, a0, a1, f0, f1, hfl, hd1, hd2, hx, hq40, hq41, hL, rowL_rep]) | ((with_reducible refine And.intro ?_ ?_); first | (with_reducible rfl) | assumption | (simp only [go_sem]; done)))
  refine WK_looseN 8 [[],[0],[],[2],[],[],[4,5],[4,5,6],[],[],[9],[8,9,10],[8,9,10,11],[0,1,4,5,6,7,8,9,10,11,12],[0,1,4,5,6,7,8,9,10,11,12,13],[0,1,2,3,4,5,6,7,8,9,10,11,12,13,14],[0,1,2,3,4,5,6,7,8,9,10,11,12,13,14,15],[0,1,2,3,4,5,6,7,8,9,10,11,12,13,14,15,16]] 0 [] [(2, 26), (3, 27), (4, 28), (5, 29), (6, 30), (7, 31), (8, 32), (9, 33), (10, 34), (11, 35), (12, 36)] [(0, [], []), (1, [], []), (13, [4, 5, 6, 7, 8, 9, 10, 11, 12], []), (14, [], []), (15, [2, 3], []), (16, [], []), (17, [], [])] (by kernel_rfl) ?_; dsimp only [List.take]
  repeat (first | (simp only [go_sem, Int.reduceLT, Int.reduceLE, Int.reduceEq, Int.reduceToNat, hp, e1, e1b, e2, hat.get, g2, hat.live, hil, t0, a0, a1, f0, f1, hfl, hd1, hd2, hx, hq40, hq41, hL, rowL_rep]) | ((with_reducible refine And.intro ?_ ?_); omega) | ((with_reducible refine isSK ?_); first | (refine call_ret (cloneBook hat hf (by omega)) (by simp only [go_sem, Int.reduceLT, Int.reduceLE, Int.reduceEq, Int.reduceToNat, hp, e1, e1b, e2, hat.get, g2, hat.live, hil, t0, a0, a1, f0, f1, hfl, hd1, hd2, hx, hq40, hq41, hL, rowL_rep]) ?_) | (refine call_ret (morph (s := 1) (t := 2) hf0 hf1 (by omega) (by omega) (by omega)) (by simp only [go_sem, Int.reduceLT, Int.reduceLE, Int.reduceEq, Int.reduceToNat, hp, e1, e1b, e2, hat.get, g2, hat.live, hil, t0, a0, a1, f0, f1, hfl, hd1, hd2, hx, hq40, hq41, hL, rowL_rep]) ?_) | (refine call_ret (insC (l := l) (i := q + 1) (f := morphF (pg l q) (pg l (q + 1)) (morphN (pg l q) (pg l (q + 1)) 1 2)) (by first | exact (Go.Sx.get_at0 _ _).trans rfl | exact (Go.Sx.get_at _ _ 1).trans rfl | exact (Go.Sx.get_at _ _ 2).trans rfl | exact (Go.Sx.get_at _ _ 3).trans rfl | exact (Go.Sx.get_at _ _ 4).trans rfl | exact (Go.Sx.get_at _ _ 5).trans rfl | exact (Go.Sx.get_at _ _ 6).trans rfl | exact (Go.Sx.get_at _ _ 7).trans rfl | exact (Go.Sx.get_at _ _ 8).trans rfl | exact (Go.Sx.get_at _ _ 9).trans rfl | exact (Go.Sx.get_at _ _ 10).trans rfl | exact (Go.Sx.get_at _ _ 11).trans rfl | exact (Go.Sx.get_at _ _ 12).trans rfl | exact (Go.Sx.get_at _ _ 13).trans rfl | exact (Go.Sx.get_at _ _ 14).trans rfl | exact (Go.Sx.get_at _ _ 15).trans rfl) (by first | exact (Go.Sx.get_at0 _ _).trans rfl | exact (Go.Sx.get_at _ _ 1).trans rfl | exact (Go.Sx.get_at _ _ 2).trans rfl | exact (Go.Sx.get_at _ _ 3).trans rfl | exact (Go.Sx.get_at _ _ 4).trans rfl | exact (Go.Sx.get_at _ _ 5).trans rfl | exact (Go.Sx.get_at _ _ 6).trans rfl | exact (Go.Sx.get_at _ _ 7).trans rfl | exact (Go.Sx.get_at _ _ 8).trans rfl | exact (Go.Sx.get_at _ _ 9).trans rfl | exact (Go.Sx.get_at _ _ 10).trans rfl | exact (Go.Sx.get_at _ _ 11).trans rfl | exact (Go.Sx.get_at _ _ 12).trans rfl | exact (Go.Sx.get_at _ _ 13).trans rfl | exact (Go.Sx.get_at _ _ 14).trans rfl | exact (Go.Sx.get_at _ _ 15).trans rfl) (by omega) rfl (by omega) (by omega) (by first | exact .inl rfl | exact .inr rfl) (by first | exact .inl rfl | exact .inr rfl)) (by simp only [go_sem, Int.reduceLT, Int.reduceLE, Int.reduceEq, Int.reduceToNat, hp, e1, e1b, e2, hat.get, g2, hat.live, hil, t0, a0, a1, f0, f1, hfl, hd1, hd2, hx, hq40, hq41, hL, rowL_rep]) ?_)) | ((with_reducible refine isMC ?_); first | (refine mcall_ret (cloneBook hat hf (by omega)) (by simp only [go_sem, Int.reduceLT, Int.reduceLE, Int.reduceEq, Int.reduceToNat, hp, e1, e1b, e2, hat.get, g2, hat.live, hil, t0, a0, a1, f0, f1, hfl, hd1, hd2, hx, hq40, hq41, hL, rowL_rep]) (by simp only [go_sem, Int.reduceLT, Int.reduceLE, Int.reduceEq, Int.reduceToNat, hp, e1, e1b, e2, hat.get, g2, hat.live, hil, t0, a0, a1, f0, f1, hfl, hd1, hd2, hx, hq40, hq41, hL, rowL_rep]) ?_) | (refine mcall_ret (morph (s := 1) (t := 2) hf0 hf1 (by omega) (by omega) (by omega)) (by simp only [go_sem, Int.reduceLT, Int.reduceLE, Int.reduceEq, Int.reduceToNat, hp, e1, e1b, e2, hat.get, g2, hat.live, hil, t0, a0, a1, f0, f1, hfl, hd1, hd2, hx, hq40, hq41, hL, rowL_rep]) (by simp only [go_sem, Int.reduceLT, Int.reduceLE, Int.reduceEq, Int.reduceToNat, hp, e1, e1b, e2, hat.get, g2, hat.live, hil, t0, a0, a1, f0, f1, hfl, hd1, hd2, hx, hq40, hq41, hL, rowL_rep]) ?_) | (refine mcall_ret (insC (l := l) (i := q + 1) (f := morphF (pg l q) (pg l (q + 1)) (morphN (pg l q) (pg l (q + 1)) 1 2)) (by first | exact (Go.Sx.get_at0 _ _).trans rfl | exact (Go.Sx.get_at _ _ 1).trans rfl | exact (Go.Sx.get_at _ _ 2).trans rfl | exact (Go.Sx.get_at _ _ 3).trans rfl | exact (Go.Sx.get_at _ _ 4).trans rfl | exact (Go.Sx.get_at _ _ 5).trans rfl | exact (Go.Sx.get_at _ _ 6).trans rfl | exact (Go.Sx.get_at _ _ 7).trans rfl | exact (Go.Sx.get_at _ _ 8).trans rfl | exact (Go.Sx.get_at _ _ 9).trans rfl | exact (Go.Sx.get_at _ _ 10).trans rfl | exact (Go.Sx.get_at _ _ 11).trans rfl | exact (Go.Sx.get_at _ _ 12).trans rfl | exact (Go.Sx.get_at _ _ 13).trans rfl | exact (Go.Sx.get_at _ _ 14).trans rfl | exact (Go.Sx.get_at _ _ 15).trans rfl) (by first | exact (Go.Sx.get_at0 _ _).trans rfl | exact (Go.Sx.get_at _ _ 1).trans rfl | exact (Go.Sx.get_at _ _ 2).trans rfl | exact (Go.Sx.get_at _ _ 3).trans rfl | exact (Go.Sx.get_at _ _ 4).trans rfl | exact (Go.Sx.get_at _ _ 5).trans rfl | exact (Go.Sx.get_at _ _ 6).trans rfl | exact (Go.Sx.get_at _ _ 7).trans rfl | exact (Go.Sx.get_at _ _ 8).trans rfl | exact (Go.Sx.get_at _ _ 9).trans rfl | exact (Go.Sx.get_at _ _ 10).trans rfl | exact (Go.Sx.get_at _ _ 11).trans rfl | exact (Go.Sx.get_at _ _ 12).trans rfl | exact (Go.Sx.get_at _ _ 13).trans rfl | exact (Go.Sx.get_at _ _ 14).trans rfl | exact (Go.Sx.get_at _ _ 15).trans rfl) (by omega) rfl (by omega) (by omega) (by first | exact .inl rfl | exact .inr rfl) (by first | exact .inl rfl | exact .inr rfl)) (by simp only [go_sem, Int.reduceLT, Int.reduceLE, Int.reduceEq, Int.reduceToNat, hp, e1, e1b, e2, hat.get, g2, hat.live, hil, t0, a0, a1, f0, f1, hfl, hd1, hd2, hx, hq40, hq41, hL, rowL_rep]) (by simp only [go_sem, Int.reduceLT, Int.reduceLE, Int.reduceEq, Int.reduceToNat, hp, e1, e1b, e2, hat.get, g2, hat.live, hil, t0, a0, a1, f0, f1, hfl, hd1, hd2, hx, hq40, hq41, hL, rowL_rep]) ?_)) | ((with_reducible refine exV0 ?_); try simp only [go_sem, fillZ, pr, List.getD_cons_zero, List.getD_cons_succ, List.getD_nil, ls0, opnd, stay, anyL, clo, List.map_cons, List.map_nil, List.zip_cons_cons, List.zip_nil_left, List.zip_nil_right, List.append_nil, List.nil_append, List.cons_append, List.foldl_cons, List.foldl_nil, List.filter_cons, List.filter_nil, List.contains_nil, List.contains_cons, List.elem_nil, beq_self_eq_true, Nat.reduceBEq, Bool.or_false, Bool.or_true, Bool.true_or, Bool.false_or, Bool.not_true, Bool.not_false, Bool.false_eq_true, if_true, if_false, St.put, Int.reduceLT, Int.reduceLE, Int.reduceEq, Int.reduceToNat, hp, e1, e1b, e2, hat.get, g2, hat.live, hil, t0, a0, a1, f0, f1, hfl, hd1, hd2, hx, hq40, hq41, hL, rowL_rep]) | ((with_reducible first | apply exV1 | apply exV2 | apply exV3 | apply exV4 | apply exV5 | apply exV6 | apply exV7 | apply exV8 | apply exV9 | apply exV10 | apply exV11 | apply exV12 | apply exV13 | apply exV14); try simp only [go_sem, fillZ, pr, List.getD_cons_zero, List.getD_cons_succ, List.getD_nil, ls0, opnd, stay, anyL, clo, List.map_cons, List.map_nil, List.zip_cons_cons, List.zip_nil_left, List.zip_nil_right, List.append_nil, List.nil_append, List.cons_append, List.foldl_cons, List.foldl_nil, List.filter_cons, List.filter_nil, List.contains_nil, List.contains_cons, List.elem_nil, beq_self_eq_true, Nat.reduceBEq, Bool.or_false, Bool.or_true, Bool.true_or, Bool.false_or, Bool.not_true, Bool.not_false, Bool.false_eq_true, if_true, if_false, St.put, Int.reduceLT, Int.reduceLE, Int.reduceEq, Int.reduceToNat, hp, e1, e1b, e2, hat.get, g2, hat.live, hil, t0, a0, a1, f0, f1, hfl, hd1, hd2, hx, hq40, hq41, hL, rowL_rep]) | ((with_reducible apply isTKs); apply TK_step rfl rfl; (focus ((repeat (apply evCons; (focus (apply evZ_mk0; (focus rfl); (focus rfl); (focus rfl); rotate_left 3; (focus (simp only [go_sem, fillZ, pr, List.getD_cons_zero, List.getD_cons_succ, List.getD_nil, ls0, opnd, stay, anyL, clo, List.map_cons, List.map_nil, List.zip_cons_cons, List.zip_nil_left, List.zip_nil_right, List.append_nil, List.nil_append, List.cons_append, List.foldl_cons, List.foldl_nil, List.filter_cons, List.filter_nil, List.contains_nil, List.contains_cons, List.elem_nil, beq_self_eq_true, Nat.reduceBEq, Bool.or_false, Bool.or_true, Bool.true_or, Bool.false_or, Bool.not_true, Bool.not_false, Bool.false_eq_true, if_true, if_false, St.put, Int.reduceLT, Int.reduceLE, Int.reduceEq, Int.reduceToNat, hp, e1, e1b, e2, hat.get, g2, hat.live, hil, t0, a0, a1, f0, f1, hfl, hd1, hd2, hx, hq40, hq41, hL, rowL_rep]; try first | with_reducible rfl | ((repeat' apply And.intro) <;> first | omega | with_reducible rfl | trivial | rfl))); (all_goals try first | (simp [go_sem, hx, Int.reduceLT, Int.reduceLE, Int.reduceEq, Int.reduceToNat, hp, e1, e1b, e2, hat.get, g2, hat.live, hil, t0, a0, a1, f0, f1, hfl, hd1, hd2, hx, hq40, hq41, hL, rowL_rep]; done) | (intro e; first | (cases e; done) | (cases e; exact absurd (by assumption : V.solid .any = true) (by decide))) | (simp [go_sem, fillZ, pr, List.getD_cons_zero, List.getD_cons_succ, List.getD_nil, ls0, opnd, stay, anyL, clo, List.map_cons, List.map_nil, List.zip_cons_cons, List.zip_nil_left, List.zip_nil_right, List.append_nil, List.nil_append, List.cons_append, List.foldl_cons, List.foldl_nil, List.filter_cons, List.filter_nil, List.contains_nil, List.contains_cons, List.elem_nil, beq_self_eq_true, Nat.reduceBEq, Bool.or_false, Bool.or_true, Bool.true_or, Bool.false_or, Bool.not_true, Bool.not_false, Bool.false_eq_true, if_true, if_false, St.put]; done)))))); exact evNil)); simp only [fillZ, pr, List.getD_cons_zero, List.getD_cons_succ, List.getD_nil, ls0, opnd, stay, anyL, clo, List.map_cons, List.map_nil, List.zip_cons_cons, List.zip_nil_left, List.zip_nil_right, List.append_nil, List.nil_append, List.cons_append, List.foldl_cons, List.foldl_nil, List.filter_cons, List.filter_nil, List.contains_nil, List.contains_cons, List.elem_nil, beq_self_eq_true, Nat.reduceBEq, Bool.or_false, Bool.or_true, Bool.true_or, Bool.false_or, Bool.not_true, Bool.not_false, Bool.false_eq_true, if_true, if_false, St.put]) | ((with_reducible apply isTKn); apply TK_nil; (focus ((repeat (apply evCons; (focus (apply evZ_mk0; (focus rfl); (focus rfl); (focus rfl); rotate_left 3; (focus (simp only [go_sem, fillZ, pr, List.getD_cons_zero, List.getD_cons_succ, List.getD_nil, ls0, opnd, stay, anyL, clo, List.map_cons, List.map_nil, List.zip_cons_cons, List.zip_nil_left, List.zip_nil_right, List.append_nil, List.nil_append, List.cons_append, List.foldl_cons, List.foldl_nil, List.filter_cons, List.filter_nil, List.contains_nil, List.contains_cons, List.elem_nil, beq_self_eq_true, Nat.reduceBEq, Bool.or_false, Bool.or_true, Bool.true_or, Bool.false_or, Bool.not_true, Bool.not_false, Bool.false_eq_true, if_true, if_false, St.put, Int.reduceLT, Int.reduceLE, Int.reduceEq, Int.reduceToNat, hp, e1, e1b, e2, hat.get, g2, hat.live, hil, t0, a0, a1, f0, f1, hfl, hd1, hd2, hx, hq40, hq41, hL, rowL_rep]; try first | with_reducible rfl | ((repeat' apply And.intro) <;> first | omega | with_reducible rfl | trivial | rfl))); (all_goals try first | (simp [go_sem, hx, Int.reduceLT, Int.reduceLE, Int.reduceEq, Int.reduceToNat, hp, e1, e1b, e2, hat.get, g2, hat.live, hil, t0, a0, a1, f0, f1, hfl, hd1, hd2, hx, hq40, hq41, hL, rowL_rep]; done) | (intro e; first | (cases e; done) | (cases e; exact absurd (by assumption : V.solid .any = true) (by decide))) | (simp [go_sem, fillZ, pr, List.getD_cons_zero, List.getD_cons_succ, List.getD_nil, ls0, opnd, stay, anyL, clo, List.map_cons, List.map_nil, List.zip_cons_cons, List.zip_nil_left, List.zip_nil_right, List.append_nil, List.nil_append, List.cons_append, List.foldl_cons, List.foldl_nil, List.filter_cons, List.filter_nil, List.contains_nil, List.contains_cons, List.elem_nil, beq_self_eq_true, Nat.reduceBEq, Bool.or_false, Bool.or_true, Bool.true_or, Bool.false_or, Bool.not_true, Bool.not_false, Bool.false_eq_true, if_true, if_false, St.put]; done)))))); exact evNil)); try simp only [go_sem, fillZ, pr, List.getD_cons_zero, List.getD_cons_succ, List.getD_nil, ls0, opnd, stay, anyL, clo, List.map_cons, List.map_nil, List.zip_cons_cons, List.zip_nil_left, List.zip_nil_right, List.append_nil, List.nil_append, List.cons_append, List.foldl_cons, List.foldl_nil, List.filter_cons, List.filter_nil, List.contains_nil, List.contains_cons, List.elem_nil, beq_self_eq_true, Nat.reduceBEq, Bool.or_false, Bool.or_true, Bool.true_or, Bool.false_or, Bool.not_true, Bool.not_false, Bool.false_eq_true, if_true, if_false, St.put, Int.reduceLT, Int.reduceLE, Int.reduceEq, Int.reduceToNat, hp, e1, e1b, e2, hat.get, g2, hat.live, hil, t0, a0, a1, f0, f1, hfl, hd1, hd2, hx, hq40, hq41, hL, rowL_rep]) | ((with_reducible refine And.intro ?_ ?_); first | (with_reducible rfl) | assumption | (simp only [go_sem]; done)))
  refine ret_one hq hw _ (.inl rfl) 2 rfl (of_eq_true ((flat_rowL .u16 12).lts _ _)) (.t [.s H.length 0 (gapF l q).length (.u 0), .v (.int .i64 0)]) (by simp [go_sem] <;> rfl) ?_
  simp [go_sem, gapF, conc, concs, upσ, Cap.val]
end Go.Proofs.YtaekjojblkhfdaaGreat
namespace Go.Proofs.YtaekjojblkhfdaaGreat
open Go Go.Sx
theorem turnL_parts {α : Type} {A X B : List α} {i k : Nat} (hA : A.length = i) (hX : X.length = k + 1 - i) (hi : i ≤ k) : turnL (A ++ (X ++ B)) i k = A ++ (X.reverse ++ B) := by
  subst hA
  unfold turnL
  rw [List.take_left, List.drop_left]
  have e1 : (X ++ B).take (k + 1 - A.length) = X := by rw [← hX, List.take_left]
  have e2 : (A ++ (X ++ B)).drop (k + 1) = B := by
    rw [show k + 1 = (A ++ X).length by rw [List.length_append, hX]; omega, ← List.append_assoc, List.drop_left]
  rw [e1, e2]
theorem turn_turn {α : Type} {l : List α} {i k : Nat} (hi : i ≤ k) (hk : k < l.length) : turnL (turnL l i k) i k = l := by
  have h1 : (l.take i).length = i := by rw [List.length_take]; omega
  have h2 : ((l.drop i).take (k + 1 - i)).length = k + 1 - i := by rw [List.length_take, List.length_drop]; omega
  conv => lhs; arg 1; unfold turnL
  rw [turnL_parts h1 (by rw [List.length_reverse]; exact h2) hi, List.reverse_reverse]
  have h3 : l.drop (k + 1) = (l.drop i).drop (k + 1 - i) := by rw [List.drop_drop]; congr 1; omega
  rw [h3, List.take_append_drop, List.take_append_drop]
theorem tpL_app {α : Type} (L : List α) (Q R : List (Nat → Int)) : tpL L (Q ++ R) = tpL (tpL L Q) R := List.foldl_append ..
theorem tf_same {o : List Int} : ∀ j, tpL (plainL o.length) (tfN o j).2 = (tfN o j).1
  | 0 => rfl
  | j + 1 => by
    have ih := tf_same (o := o) j
    show tpL _ (tfS (tfN o j) j (nth0 o j)).2 = (tfS (tfN o j) j (nth0 o j)).1
    unfold tfS
    split
    · exact ih
    · simp only
      rw [tpL_app, ih]
      show turnL _ _ _ = _
      congr 1
theorem tf_done {o : List Int} (ho : OrdP o o.length) : (tfN o o.length).1 = o := by
  obtain ⟨h1, _, h3, _⟩ := tf_inv ho o.length (Nat.le_refl _)
  apply List.ext_getElem?
  intro i
  rcases Nat.lt_or_ge i o.length with h | h
  · exact h3 i h
  · rw [List.getElem?_eq_none (by omega), List.getElem?_eq_none h]
theorem turns_order {l : List (Nat → Int)} {o : List Int} (ho : OrdP o l.length) : tpL l (tfO o) = inO l o := by
  have hl := ho.len
  have ho' : OrdP o o.length := by rw [hl]; exact ho
  rw [← inO_tpL l (tfO o), ← hl]
  unfold tfO
  rw [tf_same, tf_done ho']
theorem tf_valid {o : List Int} (ho : OrdP o o.length) : ∀ j, j ≤ o.length → ∀ f ∈ (tfN o j).2, validT o.length f = true
  | 0, _, f, hf => by cases hf
  | j + 1, h, f, hf => by
    have ih := tf_valid ho j (by omega)
    obtain ⟨k, hjk, hkn, _, _, _, _, he⟩ := tf_step ho (show j < o.length by omega) (tf_inv ho j (by omega))
    have hf2 : f ∈ (tfS (tfN o j) j (nth0 o j)).2 := hf
    rw [he] at hf2
    split at hf2
    · exact ih f hf2
    · rcases List.mem_append.1 hf2 with hf2 | hf2
      · exact ih f hf2
      · rw [List.mem_singleton.1 hf2, validT_iff]
        show (0 : Int) ≤ (j : Int) ∧ (j : Int) ≤ (k : Int) ∧ (k : Int) < (o.length : Int)
        omega
theorem tfO_valid {l : List (Nat → Int)} {o : List Int} (ho : OrdP o l.length) : (∀ f ∈ tfO o, validT l.length f = true) ∧ (tfO o).length ≤ l.length := by
  have hl := ho.len
  have ho' : OrdP o o.length := by rw [hl]; exact ho
  refine ⟨fun f hf => ?_, ?_⟩
  · have := tf_valid ho' o.length (Nat.le_refl _) f hf
    rw [hl] at this; exact this
  · have := (tf_inv ho' o.length (Nat.le_refl _)).2.2.2
    unfold tfO; omega
/- The strangest page. -/
theorem bS_max (l : List (Nat → Int)) : ∀ k j, j ≤ k → stg l j ≤ stg l (bS l k) ∧ (j < bS l k → stg l j < stg l (bS l k))
  | 0, j, h => by
    obtain rfl : j = 0 := by omega
    exact ⟨Int.le_refl _, fun h => absurd h (by unfold bS; omega)⟩
  | k + 1, j, h => by
    have ih := bS_max l k
    unfold bS
    split
    · rename_i hlt
      refine ⟨?_, fun hj => ?_⟩
      · rcases Nat.lt_or_ge j (k + 1) with h2 | h2
        · have := (ih j (by omega)).1; omega
        · obtain rfl : j = k + 1 := by omega
          exact Int.le_refl _
      · have := (ih j (by omega)).1; omega
    · rename_i hge
      have hb := bS_le l k
      rcases Nat.lt_or_ge j (k + 1) with h2 | h2
      · exact ih j (by omega)
      · obtain rfl : j = k + 1 := by omega
        exact ⟨by omega, fun hj => by omega⟩
/- Jumps with a page between. -/
theorem pg_ins {l : List (Nat → Int)} {i : Nat} {f : Nat → Int} (hi : i ≤ l.length) (j : Nat) : pg (insL l i f) j = if j < i then pg l j else if j = i then f else pg l (j - 1) := by
  have hl : (l.take i).length = i := by rw [List.length_take]; omega
  unfold pg insL
  split
  · rename_i h
    rw [List.getElem?_append_left (by omega), List.getElem?_take_of_lt h]
  · rename_i h
    rw [List.getElem?_append_right (by omega), hl]
    split
    · rename_i h2
      subst h2
      rw [Nat.sub_self]; rfl
    · rename_i h2
      rw [show j - i = (j - i - 1) + 1 by omega, List.getElem?_cons_succ, List.getElem?_drop]
      congr 2; omega
def midM (l : List (Nat → Int)) (q : Nat) : Nat → Int := morphF (pg l q) (pg l (q + 1)) (morphN (pg l q) (pg l (q + 1)) 1 2)
theorem gap_jmp {l : List (Nat → Int)} {q : Nat} (hq : q + 1 < l.length) (j : Nat) : jmp (gapF l q) j (j + 1) = if j < q then jmp l j (j + 1) else if j = q then jumpF (pg l q) (midM l q) else if j = q + 1 then jumpF (midM l q) (pg l (q + 1)) else jmp l (j - 1) j := by
  unfold jmp gapF
  rw [pg_ins (by omega), pg_ins (by omega)]
  by_cases h1 : j < q
  · rw [if_pos (by omega), if_pos (by omega), if_pos h1]
  · rw [if_neg h1]
    by_cases h2 : j = q
    · subst h2
      rw [if_pos (by omega), if_neg (by omega), if_pos rfl, if_pos rfl]; rfl
    · rw [if_neg h2]
      by_cases h3 : j = q + 1
      · subst h3
        rw [if_neg (by omega), if_pos rfl, if_neg (by omega), if_neg (by omega), if_pos rfl]; rfl
      · rw [if_neg h3, if_neg (by omega), if_neg h3, if_neg (by omega), if_neg (by omega)]; rfl
theorem mid_sum {l : List (Nat → Int)} (hF : ∀ f ∈ l, F12 f) (q : Nat) : jumpF (pg l q) (midM l q) + jumpF (midM l q) (pg l (q + 1)) = jmp l q (q + 1) ∧ 0 ≤ jumpF (pg l q) (midM l q) ∧ 0 ≤ jumpF (midM l q) (pg l (q + 1)) := by
  have h0 := (pg_12 hF q).r16
  have h1 := (pg_12 hF (q + 1)).r16
  have hm := morphN_le (a := pg l q) (b := pg l (q + 1)) (s := 1) (t := 2) (by omega) (by omega)
  have e1 := jump_first h0 h1 hm
  have e2 := jump_rest h0 h1 hm
  refine ⟨?_, (jumpF_le _ _).1, (jumpF_le _ _).1⟩
  unfold midM jmp
  rw [e1, e2]; omega
/-- The greatest of the first numbers, or nought. -/
def hiT (l : List Int) : Nat → Int
  | 0 => 0
  | n + 1 => max (hiT l n) (nth0 l n)
theorem hiT_ge (l : List Int) : ∀ n j, j < n → nth0 l j ≤ hiT l n
  | n + 1, j, h => by
    unfold hiT
    rcases Nat.lt_or_ge j n with h2 | h2
    · have := hiT_ge l n j h2; omega
    · obtain rfl : j = n := by omega
      omega
theorem hiT_range {l : List Int} (h : ∀ x ∈ l, 0 ≤ x ∧ x ≤ 144) : ∀ n, 0 ≤ hiT l n ∧ hiT l n ≤ 144
  | 0 => by simp [hiT]
  | n + 1 => by
    have ih := hiT_range h n
    have := nth0_range h n
    unfold hiT; omega
theorem hiT_mx {l : List Int} (h : ∀ x ∈ l, 0 ≤ x ∧ x ≤ 144) : ∀ n, hiT l (n + 1) = mxT l n
  | 0 => by
    have := nth0_range h 0
    unfold hiT mxT hiT; omega
  | n + 1 => by
    have ih := hiT_mx h n
    unfold hiT mxT
    rw [ih]
theorem gap_le {l : List (Nat → Int)} (hF : ∀ f ∈ l, F12 f) {q : Nat} (hq : q + 1 < l.length) {j : Nat} (hj : j < l.length) : jmp (gapF l q) j (j + 1) ≤ hiT (jl l (l.length - 1)) (l.length - 1) := by
  have key : ∀ i, i + 1 < l.length → jmp l i (i + 1) ≤ hiT (jl l (l.length - 1)) (l.length - 1) := fun i hi => by
    have := hiT_ge (jl l (l.length - 1)) (l.length - 1) i (by omega)
    rw [nth0_at (by rw [jl_len]; omega), jl_at (by omega)] at this
    exact this
  have hs := mid_sum hF q
  have hk := key q hq
  rw [gap_jmp hq]
  split
  · exact key j (by omega)
  · split
    · omega
    · split
      · omega
      · have := key (j - 1) (by omega)
        rwa [show j - 1 + 1 = j by omega] at this
theorem wide_high {l : List (Nat → Int)} (h2 : 2 ≤ l.length) : nth0 (jl l (l.length - 1)) (gjP l) = hiT (jl l (l.length - 1)) (l.length - 1) ∧ gjM l = hiT (jl l (l.length - 1)) (l.length - 1) := by
  have e := hiT_mx (l := jl l (l.length - 1)) jl_range (l.length - 1 - 1)
  rw [show l.length - 1 - 1 + 1 = l.length - 1 by omega] at e
  rw [e]
  exact ⟨(bT_max _ _).1, rfl⟩
theorem gjP_lt {l : List (Nat → Int)} (h2 : 2 ≤ l.length) : gjP l + 1 < l.length := by
  have := bT_le (jl l (l.length - 1)) (l.length - 1 - 1)
  unfold gjP; omega
end Go.Proofs.YtaekjojblkhfdaaGreat
