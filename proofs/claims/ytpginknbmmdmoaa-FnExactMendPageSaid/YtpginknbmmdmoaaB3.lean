/- Contracts of functions of the translated program, by the walk. -/
import Derived.Test.YtpginknbmmdmoaaB2
set_option linter.unusedVariables false
set_option linter.unusedSimpArgs false
set_option maxRecDepth 8000
set_option maxHeartbeats 4000000
namespace Go.Proofs.Ytpginknbmmdmoaa
open Go Go.Sx
theorem hz12 : ∀ x : Nat → Int, (rowL .u16 12 x).length = 12 := fun _ => rowL_length ..
theorem cloneBook {H : List Blk} {i off : Nat} {c : Cap} {b : Blk} {l : List (Nat → Int)} (h : At H i off (l.flatMap (rowL .u16 12)) b) (hf : off + (l.flatMap (rowL .u16 12)).length ≤ b.cells.length) (hl : l.length ≤ 1000000) :
    Cal Try.prog 96 [.s i off l.length c] H fun u H' => u = .s H.length 0 l.length (.u 0) ∧ H' = H ++ [⟨l.flatMap (rowL .u16 12), 24, .own 12⟩] := by
  refine cal_fn 7 mixed Try.func96 Try.ntmps96 Try.results96 rfl rfl rfl fun hw x hx hq => ?_
  have hfl := Flat.flen (flat_rowL .u16 12) l
  rw [hfl] at hf
  have hn : norefH H.length H := norefH_wf hw (Nat.le_refl _)
  have hij : (i = H.length) = False := eq_false (by have := h.lt; omega)
  simp only [go_sem, h.get, h.live, h.lt, h.all hz12, hn, hij, hx]
  repeat (refine And.intro (by omega) ?_)
  refine ret_at hq _ (.inl rfl) (by simp) ?_
  simp only [go_sem]
def mendF (l : List (Nat → Int)) (q : Nat) : List (Nat → Int) := l.set (q + 1) (mostF (l[q]?.getD zeroF) (l[q + 1]?.getD zeroF) (l[q + 2]?.getD zeroF))
def mendC (l : List (Nat → Int)) (p : Int) : Int := if pageC l p = 0 then (if p = 0 ∨ p + 1 = l.length then 6 else 0) else pageC l p
theorem mostF_at {l : List (Nat → Int)} {q : Nat} (hq : q + 2 < l.length) : mendF l q = l.set (q + 1) (mostF l[q] l[q + 1] l[q + 2]) := by
  unfold mendF
  rw [List.getElem?_eq_getElem (by omega), List.getElem?_eq_getElem (by omega), List.getElem?_eq_getElem (by omega)]
  rfl
theorem mend_set {l : List (Nat → Int)} {q : Nat} (hq : q + 2 < l.length) : wr (l.flatMap (rowL .u16 12)) ((q + 1) * 12) (rowL .u16 12 (mostF l[q] l[q + 1] l[q + 2])) = (mendF l q).flatMap (rowL .u16 12) := by
  rw [flat_set (rowL .u16 12) 12 hz12 _ _ _ (by omega), mostF_at hq]
theorem mend_len (l : List (Nat → Int)) (q : Nat) : (mendF l q).length = l.length := by unfold mendF; simp
theorem specMendPage_err {H : List Blk} {v : V} {l : List (Nat → Int)} {p : Int} (h : Rd H v (rowL .u16 12) l) (hl : l.length ≤ 1000000) (hc : mendC l p ≠ 0) :
    Cal Try.prog 33 [v, .v (.int .i64 p)] H fun u H' => u = .t [.s H.length 0 0 (.u 0), .v (.int .i64 (mendC l p))] ∧ H' = H ++ [⟨[], 24, .own 12⟩] := by
  have hsol := h.solid
  have hL := h.lenV (P := Try.prog) slTy53
  refine cal_fn 42 mixed Try.func33 Try.ntmps33 Try.results33 rfl rfl rfl fun hw x hx hq => ?_
  by_cases e : pageC l p = 0
  · by_cases e2 : p = 0
    · have hm : mendC l p = 6 := by unfold mendC; rw [if_pos e, if_pos (.inl e2)]
      subst e2
      repeat (first | (simp only [go_sem, Int.reduceLT, Int.reduceLE, Int.reduceEq, hsol, e]) | (refine And.intro (by omega) ?_) | (refine call_ret (l04Page h (by omega)) (by simp only [go_sem, Int.reduceLT, Int.reduceLE, Int.reduceEq, hsol, e]) ?_) | (refine mcall_ret (l04Page h (by omega)) (by simp only [go_sem, Int.reduceLT, Int.reduceLE, Int.reduceEq, hsol, e]) (by simp only [go_sem, Int.reduceLT, Int.reduceLE, Int.reduceEq, hsol, e]) ?_) | (refine WK_drawAt 7 [[],[],[],[],[3],[2,3,4],[],[],[6,7],[],[],[10],[9,10,11],[2,3,4,5,6,7,8,9,10,11,12],[0,1,2,3,4,5,6,7,8,9,10,11,12,13],[0,1,2,3,4,5,6,7,8,9,10,11,12,13,14]] (by kernel_rfl) ?_) | (with_reducible refine And.intro (by first | rfl | assumption | (simp only [go_sem]; done)) ?_))
      refine ret_at hq _ (.inl rfl) (by simp) ?_
      simp [go_sem, hm]
    · by_cases e3 : p + 1 = l.length
      · have hm : mendC l p = 6 := by unfold mendC; rw [if_pos e, if_pos (.inr e3)]
        repeat (first | (simp only [go_sem, Int.reduceLT, Int.reduceLE, Int.reduceEq, hsol, e, e2, hL, e3]) | (refine And.intro (by omega) ?_) | (refine call_ret (l04Page h (by omega)) (by simp only [go_sem, Int.reduceLT, Int.reduceLE, Int.reduceEq, hsol, e, e2, hL, e3]) ?_) | (refine mcall_ret (l04Page h (by omega)) (by simp only [go_sem, Int.reduceLT, Int.reduceLE, Int.reduceEq, hsol, e, e2, hL, e3]) (by simp only [go_sem, Int.reduceLT, Int.reduceLE, Int.reduceEq, hsol, e, e2, hL, e3]) ?_) | (refine WK_drawAt 7 [[],[],[],[],[3],[2,3,4],[],[],[6,7],[],[],[10],[9,10,11],[2,3,4,5,6,7,8,9,10,11,12],[0,1,2,3,4,5,6,7,8,9,10,11,12,13],[0,1,2,3,4,5,6,7,8,9,10,11,12,13,14]] (by kernel_rfl) ?_) | (with_reducible refine And.intro (by first | rfl | assumption | (simp only [go_sem]; done)) ?_))
        refine ret_at hq _ (.inl rfl) (by simp) ?_
        simp [go_sem, hm]
      · exfalso; apply hc; unfold mendC; rw [if_pos e, if_neg (by simp [e2, e3])]
  · have hm : mendC l p = pageC l p := by unfold mendC; rw [if_neg e]
    repeat (first | (simp only [go_sem, Int.reduceLT, Int.reduceLE, Int.reduceEq, hsol, e]) | (refine And.intro (by omega) ?_) | (refine call_ret (l04Page h (by omega)) (by simp only [go_sem, Int.reduceLT, Int.reduceLE, Int.reduceEq, hsol, e]) ?_) | (refine mcall_ret (l04Page h (by omega)) (by simp only [go_sem, Int.reduceLT, Int.reduceLE, Int.reduceEq, hsol, e]) (by simp only [go_sem, Int.reduceLT, Int.reduceLE, Int.reduceEq, hsol, e]) ?_) | (refine WK_drawAt 7 [[],[],[],[],[3],[2,3,4],[],[],[6,7],[],[],[10],[9,10,11],[2,3,4,5,6,7,8,9,10,11,12],[0,1,2,3,4,5,6,7,8,9,10,11,12,13],[0,1,2,3,4,5,6,7,8,9,10,11,12,13,14]] (by kernel_rfl) ?_) | (with_reducible refine And.intro (by first | rfl | assumption | (simp only [go_sem]; done)) ?_))
    refine ret_at hq _ (.inl rfl) (by simp) ?_
    simp [go_sem, hm]
theorem specMendPage_ok {H : List Blk} {v : V} {l : List (Nat → Int)} {q : Nat} (h : Rd H v (rowL .u16 12) l) (hl : l.length ≤ 1000000) (hp : pageC l ((q : Int) + 1) = 0) (hq2 : q + 2 < l.length) :
    Cal Try.prog 33 [v, .v (.int .i64 ((q : Int) + 1))] H fun u H' => u = .t [.s H.length 0 (mendF l q).length (.u 0), .v (.int .i64 0)] ∧ H' = H ++ [⟨(mendF l q).flatMap (rowL .u16 12), 24, .own 12⟩] := by
  rw [mend_len]
  have hsol := h.solid
  have hL := h.lenV (P := Try.prog) slTy53
  obtain ⟨i, off, c, b, rfl, hat, hf⟩ := h.full (by omega)
  have hfl := Flat.flen (flat_rowL .u16 12) l
  rw [hfl] at hf
  refine cal_fn 42 mixed Try.func33 Try.ntmps33 Try.results33 rfl rfl rfl fun hw x hx hq => ?_
  have hn : norefH H.length H := norefH_wf hw (Nat.le_refl _)
  have hij : (i = H.length) = False := eq_false (by have := hat.lt; omega)
  have e1 : ((q : Int) + 1 = 0) = False := eq_false (by omega)
  have e2 : ((q : Int) + 1 + 1 = l.length) = False := eq_false (by omega)
  have t0 : ((q : Int) + 1 - 1).toNat = q := by omega
  have t1 : ((q : Int) + 1).toNat = q + 1 := by omega
  have t2 : ((q : Int) + 1 + 1).toNat = q + 2 := by omega
  have a0 := hat.el hz12 (show q < l.length by omega)
  have a1 := hat.el hz12 (show q + 1 < l.length by omega)
  have a2 := hat.el hz12 (show q + 2 < l.length by omega)
  have hset := mend_set hq2
  repeat (first | (simp only [go_sem, Int.reduceLT, Int.reduceLE, Int.reduceEq, hp, e1, e2, hat.get, hat.live, hat.lt, hat.all hz12, hn, hij, hx, t0, t1, t2, hfl, hset]) | (refine And.intro (by omega) ?_) | (refine call_ret (l04Page h (by omega)) (by simp only [go_sem, Int.reduceLT, Int.reduceLE, Int.reduceEq, hp, e1, e2, hat.get, hat.live, hat.lt, hat.all hz12, hn, hij, hx, t0, t1, t2, hfl, hset]) ?_) | (refine call_ret (l04Most a0.app a1.app a2.app) (by simp only [go_sem, Int.reduceLT, Int.reduceLE, Int.reduceEq, hp, e1, e2, hat.get, hat.live, hat.lt, hat.all hz12, hn, hij, hx, t0, t1, t2, hfl, hset]) ?_) | (refine mcall_ret (l04Page h (by omega)) (by simp only [go_sem, Int.reduceLT, Int.reduceLE, Int.reduceEq, hp, e1, e2, hat.get, hat.live, hat.lt, hat.all hz12, hn, hij, hx, t0, t1, t2, hfl, hset]) (by simp only [go_sem, Int.reduceLT, Int.reduceLE, Int.reduceEq, hp, e1, e2, hat.get, hat.live, hat.lt, hat.all hz12, hn, hij, hx, t0, t1, t2, hfl, hset]) ?_) | (refine mcall_ret (l04Most a0.app a1.app a2.app) (by simp only [go_sem, Int.reduceLT, Int.reduceLE, Int.reduceEq, hp, e1, e2, hat.get, hat.live, hat.lt, hat.all hz12, hn, hij, hx, t0, t1, t2, hfl, hset]) (by simp only [go_sem, Int.reduceLT, Int.reduceLE, Int.reduceEq, hp, e1, e2, hat.get, hat.live, hat.lt, hat.all hz12, hn, hij, hx, t0, t1, t2, hfl, hset]) ?_) | (refine WK_drawAt 7 [[],[],[],[],[3],[2,3,4],[],[],[6,7],[],[],[10],[9,10,11],[2,3,4,5,6,7,8,9,10,11,12],[0,1,2,3,4,5,6,7,8,9,10,11,12,13],[0,1,2,3,4,5,6,7,8,9,10,11,12,13,14]] (by kernel_rfl) ?_) | (with_reducible refine And.intro (by first | rfl | assumption | (simp only [go_sem]; done)) ?_))
  refine ret_at hq _ (.inl rfl) (by simp) ?_
  simp [go_sem]
theorem implMendPage_err {H : List Blk} {v : V} {l : List (Nat → Int)} {p : Int} (h : Rd H v (rowL .u16 12) l) (hl : l.length ≤ 1000000) (hc : mendC l p ≠ 0) :
    Cal Try.prog 35 [v, .v (.int .i64 p)] H fun u H' => u = .t [.v (.slice none 0 0), .v (.int .i64 (mendC l p))] ∧ H' = H := by
  have hsol := h.solid
  have hL := h.lenV (P := Try.prog) slTy53
  refine cal_fn 44 mixed Try.func35 Try.ntmps35 Try.results35 rfl rfl rfl fun hw x hx hq => ?_
  by_cases e : pageC l p = 0
  · by_cases e2 : p = 0
    · have hm : mendC l p = 6 := by unfold mendC; rw [if_pos e, if_pos (.inl e2)]
      subst e2
      repeat (first | (simp only [go_sem, Int.reduceLT, Int.reduceLE, Int.reduceEq, hsol, e]) | (refine And.intro (by omega) ?_) | (refine call_ret (checkPage h (by omega)) (by simp only [go_sem, Int.reduceLT, Int.reduceLE, Int.reduceEq, hsol, e]) ?_) | (refine mcall_ret (checkPage h (by omega)) (by simp only [go_sem, Int.reduceLT, Int.reduceLE, Int.reduceEq, hsol, e]) (by simp only [go_sem, Int.reduceLT, Int.reduceLE, Int.reduceEq, hsol, e]) ?_) | (refine WK_drawAt 7 [[],[],[],[],[3],[2,3,4],[2,3,4,5],[],[],[7,8],[7,8,9],[],[],[12],[11,12,13],[11,12,13,14],[2,3,4,5,6,7,8,9,10,11,12,13,14,15],[0,1,2,3,4,5,6,7,8,9,10,11,12,13,14,15,16],[0,1,2,3,4,5,6,7,8,9,10,11,12,13,14,15,16,17]] (by kernel_rfl) ?_) | (with_reducible refine And.intro (by first | rfl | assumption | (simp only [go_sem]; done)) ?_))
      refine ret_same hq _ (.inl rfl) ?_
      simp [go_sem, hm]
    · by_cases e3 : p + 1 = l.length
      · have hm : mendC l p = 6 := by unfold mendC; rw [if_pos e, if_pos (.inr e3)]
        have e4 : (p = (l.length : Int) - 1) = True := eq_true (by omega)
        repeat (first | (simp only [go_sem, Int.reduceLT, Int.reduceLE, Int.reduceEq, hsol, e, e2, hL, e4]) | (refine And.intro (by omega) ?_) | (refine call_ret (checkPage h (by omega)) (by simp only [go_sem, Int.reduceLT, Int.reduceLE, Int.reduceEq, hsol, e, e2, hL, e4]) ?_) | (refine mcall_ret (checkPage h (by omega)) (by simp only [go_sem, Int.reduceLT, Int.reduceLE, Int.reduceEq, hsol, e, e2, hL, e4]) (by simp only [go_sem, Int.reduceLT, Int.reduceLE, Int.reduceEq, hsol, e, e2, hL, e4]) ?_) | (refine WK_drawAt 7 [[],[],[],[],[3],[2,3,4],[2,3,4,5],[],[],[7,8],[7,8,9],[],[],[12],[11,12,13],[11,12,13,14],[2,3,4,5,6,7,8,9,10,11,12,13,14,15],[0,1,2,3,4,5,6,7,8,9,10,11,12,13,14,15,16],[0,1,2,3,4,5,6,7,8,9,10,11,12,13,14,15,16,17]] (by kernel_rfl) ?_) | (with_reducible refine And.intro (by first | rfl | assumption | (simp only [go_sem]; done)) ?_))
        refine ret_same hq _ (.inl rfl) ?_
        simp [go_sem, hm]
      · exfalso; apply hc; unfold mendC; rw [if_pos e, if_neg (by simp [e2, e3])]
  · have hm : mendC l p = pageC l p := by unfold mendC; rw [if_neg e]
    repeat (first | (simp only [go_sem, Int.reduceLT, Int.reduceLE, Int.reduceEq, hsol, e]) | (refine And.intro (by omega) ?_) | (refine call_ret (checkPage h (by omega)) (by simp only [go_sem, Int.reduceLT, Int.reduceLE, Int.reduceEq, hsol, e]) ?_) | (refine mcall_ret (checkPage h (by omega)) (by simp only [go_sem, Int.reduceLT, Int.reduceLE, Int.reduceEq, hsol, e]) (by simp only [go_sem, Int.reduceLT, Int.reduceLE, Int.reduceEq, hsol, e]) ?_) | (refine WK_drawAt 7 [[],[],[],[],[3],[2,3,4],[2,3,4,5],[],[],[7,8],[7,8,9],[],[],[12],[11,12,13],[11,12,13,14],[2,3,4,5,6,7,8,9,10,11,12,13,14,15],[0,1,2,3,4,5,6,7,8,9,10,11,12,13,14,15,16],[0,1,2,3,4,5,6,7,8,9,10,11,12,13,14,15,16,17]] (by kernel_rfl) ?_) | (with_reducible refine And.intro (by first | rfl | assumption | (simp only [go_sem]; done)) ?_))
    refine ret_same hq _ (.inl rfl) ?_
    simp [go_sem, hm]
theorem implMendPage_ok {H : List Blk} {v : V} {l : List (Nat → Int)} {q : Nat} (h : Rd H v (rowL .u16 12) l) (hl : l.length ≤ 1000000) (hp : pageC l ((q : Int) + 1) = 0) (hq2 : q + 2 < l.length) :
    Cal Try.prog 35 [v, .v (.int .i64 ((q : Int) + 1))] H fun u H' => u = .t [.s H.length 0 (mendF l q).length (.u 0), .v (.int .i64 0)] ∧ H' = H ++ [⟨(mendF l q).flatMap (rowL .u16 12), 24, .own 12⟩] := by
  rw [mend_len]
  have hsol := h.solid
  have hL := h.lenV (P := Try.prog) slTy53
  obtain ⟨i, off, c, b, rfl, hat, hf⟩ := h.full (by omega)
  have hfl := Flat.flen (flat_rowL .u16 12) l
  refine cal_fn 44 mixed Try.func35 Try.ntmps35 Try.results35 rfl rfl rfl fun hw x hx hq => ?_
  have e1 : ((q : Int) + 1 = 0) = False := eq_false (by omega)
  have e2 : ((q : Int) + 1 = (l.length : Int) - 1) = False := eq_false (by omega)
  have t0 : ((q : Int) + 1 - 1).toNat = q := by omega
  have t1 : ((q : Int) + 1).toNat = q + 1 := by omega
  have t2 : ((q : Int) + 1 + 1).toNat = q + 2 := by omega
  have a0 := hat.elem (rowL .u16 12) 12 hz12 (show q < l.length by omega)
  have a1 := hat.elem (rowL .u16 12) 12 hz12 (show q + 1 < l.length by omega)
  have a2 := hat.elem (rowL .u16 12) 12 hz12 (show q + 2 < l.length by omega)
  have hset := mend_set hq2
  repeat (first | (simp only [go_sem, Int.reduceLT, Int.reduceLE, Int.reduceEq, hp, e1, e2, hat.get, hat.live, hat.lt, t0, t1, t2, hset, a0, a1, a2, hfl]) | (refine And.intro (by omega) ?_) | (refine call_ret (checkPage h (by omega)) (by simp only [go_sem, Int.reduceLT, Int.reduceLE, Int.reduceEq, hp, e1, e2, hat.get, hat.live, hat.lt, t0, t1, t2, hset, a0, a1, a2, hfl]) ?_) | (refine call_ret (cloneBook hat hf hl) (by simp only [go_sem, Int.reduceLT, Int.reduceLE, Int.reduceEq, hp, e1, e2, hat.get, hat.live, hat.lt, t0, t1, t2, hset, a0, a1, a2, hfl]) ?_) | (refine call_ret (majority) (by simp only [go_sem, Int.reduceLT, Int.reduceLE, Int.reduceEq, hp, e1, e2, hat.get, hat.live, hat.lt, t0, t1, t2, hset, a0, a1, a2, hfl]) ?_) | (refine mcall_ret (checkPage h (by omega)) (by simp only [go_sem, Int.reduceLT, Int.reduceLE, Int.reduceEq, hp, e1, e2, hat.get, hat.live, hat.lt, t0, t1, t2, hset, a0, a1, a2, hfl]) (by simp only [go_sem, Int.reduceLT, Int.reduceLE, Int.reduceEq, hp, e1, e2, hat.get, hat.live, hat.lt, t0, t1, t2, hset, a0, a1, a2, hfl]) ?_) | (refine mcall_ret (cloneBook hat hf hl) (by simp only [go_sem, Int.reduceLT, Int.reduceLE, Int.reduceEq, hp, e1, e2, hat.get, hat.live, hat.lt, t0, t1, t2, hset, a0, a1, a2, hfl]) (by simp only [go_sem, Int.reduceLT, Int.reduceLE, Int.reduceEq, hp, e1, e2, hat.get, hat.live, hat.lt, t0, t1, t2, hset, a0, a1, a2, hfl]) ?_) | (refine mcall_ret (majority) (by simp only [go_sem, Int.reduceLT, Int.reduceLE, Int.reduceEq, hp, e1, e2, hat.get, hat.live, hat.lt, t0, t1, t2, hset, a0, a1, a2, hfl]) (by simp only [go_sem, Int.reduceLT, Int.reduceLE, Int.reduceEq, hp, e1, e2, hat.get, hat.live, hat.lt, t0, t1, t2, hset, a0, a1, a2, hfl]) ?_) | (refine WK_drawAt 7 [[],[],[],[],[3],[2,3,4],[2,3,4,5],[],[],[7,8],[7,8,9],[],[],[12],[11,12,13],[11,12,13,14],[2,3,4,5,6,7,8,9,10,11,12,13,14,15],[0,1,2,3,4,5,6,7,8,9,10,11,12,13,14,15,16],[0,1,2,3,4,5,6,7,8,9,10,11,12,13,14,15,16,17]] (by kernel_rfl) ?_) | (with_reducible refine And.intro (by first | rfl | assumption | (simp only [go_sem]; done)) ?_))
  refine ret_at hq _ (.inl rfl) (by simp) ?_
  simp [go_sem]
theorem markBookL {H : List Blk} {i n : Nat} {c : Cap} {l r : List (Nat → Int)} {ty : TypeId} {kd : BK} {k : Int} (h : H[i]? = some ⟨(l ++ r).flatMap (rowL .u16 12), ty, kd⟩) (hk : kd.mut = true) (hn : n = l.length) (hl : l.length ≤ 1000000) (hk0 : 0 ≤ k ∧ k ≤ 1000000000) :
    Cal Try.prog 38 [.s i 0 n c, .v (.int .i64 k)] H fun u H' => u = .v (.int .i64 (k + (l.length * 12 : Nat))) ∧ H' = H.set i ⟨rowL .u16 (l.length * 12) (mk16 k) ++ r.flatMap (rowL .u16 12), ty, kd⟩ := by
  subst hn
  rw [List.flatMap_append, flat_row .u16 12 (by omega) l] at h
  exact markBook h hk hl hk0
theorem markBookO {H : List Blk} {i n : Nat} {c : Cap} {l : List (Nat → Int)} {ty : TypeId} {kd : BK} {k : Int} (h : H[i]? = some ⟨l.flatMap (rowL .u16 12), ty, kd⟩) (hk : kd.mut = true) (hn : n = l.length) (hl : l.length ≤ 1000000) (hk0 : 0 ≤ k ∧ k ≤ 1000000000) :
    Cal Try.prog 38 [.s i 0 n c, .v (.int .i64 k)] H fun u H' => u = .v (.int .i64 (k + (l.length * 12 : Nat))) ∧ H' = H.set i ⟨rowL .u16 (l.length * 12) (mk16 k), ty, kd⟩ := by
  have := markBookL (r := []) (H := H) (i := i) (n := n) (c := c) (l := l) (ty := ty) (kd := kd) (k := k) (by simpa using h) hk hn hl hk0
  simpa using this
end Go.Proofs.Ytpginknbmmdmoaa

