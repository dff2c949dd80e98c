/- Contracts of functions of the translated program, by the walk. -/
import Derived.Test.YtaekjojblkhfdaaGreatB2
import Derived.Test.YtaekjojblkhfdaaGreatLD
set_option linter.unusedVariables false
set_option linter.unusedSimpArgs false
set_option maxRecDepth 8000
set_option maxHeartbeats 16000000
namespace Go.Proofs.YtaekjojblkhfdaaGreat
open Go Go.Sx
theorem hz12 : ∀ x : Nat → Int, (rowL .u16 12 x).length = 12 := fun _ => rowL_length ..
theorem cloneBook {H : List Blk} {i off : Nat} {c : Cap} {b : Blk} {l : List (Nat → Int)} (h : At H i off (l.flatMap (rowL .u16 12)) b) (hf : off + (l.flatMap (rowL .u16 12)).length ≤ b.cells.length) (hl : l.length ≤ 1000000) :
    Cal Tryz.prog 38 [.s i off l.length c] H fun u H' => u = .s H.length 0 l.length (.u 0) ∧ H' = H ++ [⟨l.flatMap (rowL .u16 12), 63, .own 12⟩] := by
  refine cal_fn 7 mixed Tryz.func38 Tryz.ntmps38 Tryz.results38 rfl rfl rfl fun hw cx hx hq => ?_
  have hfl := Flat.flen (flat_rowL .u16 12) l
  rw [hfl] at hf
  have hn : norefH H.length H := norefH_wf hw (Nat.le_refl _)
  have hij : (i = H.length) = False := eq_false (by have := h.lt; omega)
  simp only [go_sem, h.get, h.live, h.lt, h.all hz12, hn, hij, hx]
  repeat (refine And.intro (by omega) ?_)
  refine ret_at hq _ (.inl rfl) (by simp) ?_
  simp only [go_sem]
def mendF (l : List (Nat → Int)) (q : Nat) : List (Nat → Int) := l.set (q + 1) (mostF (l[q]?.getD zeroF) (l[q + 1]?.getD zeroF) (l[q + 2]?.getD zeroF))
def mendC (l : List (Nat → Int)) (p : Int) : Int := if pageC l p = 0 then (if p = 0 ∨ p + 1 = l.length then 6 else 0) else pageC l p
theorem mostF_at {l : List (Nat → Int)} {q : Nat} (hq : q + 2 < l.length) : mendF l q = l.set (q + 1) (mostF l[q] l[q + 1] l[q + 2]) := by
  unfold mendF
  rw [List.getElem?_eq_getElem (by omega), List.getElem?_eq_getElem (by omega), List.getElem?_eq_getElem (by omega)]
  rfl
theorem mend_set {l : List (Nat → Int)} {q : Nat} (hq : q + 2 < l.length) : wr (l.flatMap (rowL .u16 12)) ((q + 1) * 12) (rowL .u16 12 (mostF l[q] l[q + 1] l[q + 2])) = (mendF l q).flatMap (rowL .u16 12) := by
  rw [flat_set (rowL .u16 12) 12 hz12 _ _ _ (by omega), mostF_at hq]
theorem mend_len (l : List (Nat → Int)) (q : Nat) : (mendF l q).length = l.length := by unfold mendF; simp
theorem specMendPage_err {H : List Blk} {v : V} {l : List (Nat → Int)} {p : Int} (h : Rd H v (rowL .u16 12) l) (hl : l.length ≤ 1000000) (hc : mendC l p ≠ 0) :
    Cal Tryz.prog 25 [v, .v (.int .i64 p)] H fun u H' => u = .t [.s H.length 0 0 (.u 0), .v (.int .i64 (mendC l p))] ∧ H' = H ++ [⟨[], 63, .own 12⟩] := by
  have hsol := h.solid
  have hL := h.lenV (P := Tryz.prog) slTy25
  refine cal_fn 42 mixed Tryz.func25 Tryz.ntmps25 Tryz.results25 rfl rfl rfl fun hw cx hx hq => ?_
  by_cases e : pageC l p = 0
  · by_cases e2 : p = 0
    · have hm : mendC l p = 6 := by unfold mendC; rw [if_pos e, if_pos (.inl e2)]
      subst e2
      repeat (first | (simp only [go_sem, Int.reduceLT, Int.reduceLE, Int.reduceEq, Int.reduceToNat, hsol, e]) | ((with_reducible refine And.intro ?_ ?_); omega) | ((with_reducible refine isSK ?_); first | (refine call_ret (l04Page h (by omega)) (by simp only [go_sem, Int.reduceLT, Int.reduceLE, Int.reduceEq, Int.reduceToNat, hsol, e]) ?_)) | ((with_reducible refine isMC ?_); first | (refine mcall_ret (l04Page h (by omega)) (by simp only [go_sem, Int.reduceLT, Int.reduceLE, Int.reduceEq, Int.reduceToNat, hsol, e]) (by simp only [go_sem, Int.reduceLT, Int.reduceLE, Int.reduceEq, Int.reduceToNat, hsol, e]) ?_)) | ((with_reducible refine isWKr (id := 7) ?_); refine WK_drawAt 7 [[],[],[],[],[3],[2,3,4],[],[],[6,7],[],[],[10],[9,10,11],[2,3,4,5,6,7,8,9,10,11,12],[0,1,2,3,4,5,6,7,8,9,10,11,12,13],[0,1,2,3,4,5,6,7,8,9,10,11,12,13,14]] (by kernel_rfl) ?_) | ((with_reducible refine And.intro ?_ ?_); first | (with_reducible rfl) | assumption | (simp only [go_sem]; done)))
      refine ret_at hq _ (.inl rfl) (by simp) ?_
      simp [go_sem, hm]
    · by_cases e3 : p + 1 = l.length
      · have hm : mendC l p = 6 := by unfold mendC; rw [if_pos e, if_pos (.inr e3)]
        repeat (first | (simp only [go_sem, Int.reduceLT, Int.reduceLE, Int.reduceEq, Int.reduceToNat, hsol, e, e2, hL, e3]) | ((with_reducible refine And.intro ?_ ?_); omega) | ((with_reducible refine isSK ?_); first | (refine call_ret (l04Page h (by omega)) (by simp only [go_sem, Int.reduceLT, Int.reduceLE, Int.reduceEq, Int.reduceToNat, hsol, e, e2, hL, e3]) ?_)) | ((with_reducible refine isMC ?_); first | (refine mcall_ret (l04Page h (by omega)) (by simp only [go_sem, Int.reduceLT, Int.reduceLE, Int.reduceEq, Int.reduceToNat, hsol, e, e2, hL, e3]) (by simp only [go_sem, Int.reduceLT, Int.reduceLE, Int.reduceEq, Int.reduceToNat, hsol, e, e2, hL, e3]) ?_)) | ((with_reducible refine isWKr (id := 7) ?_); refine WK_drawAt 7 [[],[],[],[],[3],[2,3,4],[],[],[6,7],[],[],[10],[9,10,11],[2,3,4,5,6,7,8,9,10,11,12],[0,1,2,3,4,5,6,7,8,9,10,11,12,13],[0,1,2,3,4,5,6,7,8,9,10,11,12,13,14]] (by kernel_rfl) ?_) | ((with_reducible refine And.intro ?_ ?_); first | (with_reducible rfl) | assumption | (simp only [go_sem]; done)))
        refine ret_at hq _ (.inl rfl) (by simp) ?_
        simp [go_sem, hm]
      · exfalso; apply hc; unfold mendC; rw [if_pos e, if_neg (by simp [e2, e3])]
  · have hm : mendC l p = pageC l p := by unfold mendC; rw [if_neg e]
    repeat (first | (simp only [go_sem, Int.reduceLT, Int.reduceLE, Int.reduceEq, Int.reduceToNat, hsol, e]) | ((with_reducible refine And.intro ?_ ?_); omega) | ((with_reducible refine isSK ?_); first | (refine call_ret (l04Page h (by omega)) (by simp only [go_sem, Int.reduceLT, Int.reduceLE, Int.reduceEq, Int.reduceToNat, hsol, e]) ?_)) | ((with_reducible refine isMC ?_); first | (refine mcall_ret (l04Page h (by omega)) (by simp only [go_sem, Int.reduceLT, Int.reduceLE, Int.reduceEq, Int.reduceToNat, hsol, e]) (by simp only [go_sem, Int.reduceLT, Int.reduceLE, Int.reduceEq, Int.reduceToNat, hsol, e]) ?_)) | ((with_reducible refine isWKr (id := 7) ?_); refine WK_drawAt 7 [[],[],[],[],[3],[2,3,4],[],[],[6,7],[],[],[10],[9,10,11],[2,3,4,5,6,7,8,9,10,11,12],[0,1,2,3,4,5,6,7,8,9,10,11,12,13],[0,1,2,3,4,5,6,7,8,9,10,11,12,13,14]] (by kernel_rfl) ?_) | ((with_reducible refine And.intro ?_ ?_); first | (with_reducible rfl) | assumption | (simp only [go_sem]; done)))
    refine ret_at hq _ (.inl rfl) (by simp) ?_
    simp [go_sem, hm]
theorem specMendPage_ok {H : List Blk} {v : V} {l : List (Nat → Int)} {q : Nat} (h : Rd H v (rowL .u16 12) l) (hl : l.length ≤ 1000000) (hp : pageC l ((q : Int) + 1) = 0) (hq2 : q + 2 < l.length) :
    Cal Tryz.prog 25 [v, .v (.int .i64 ((q : Int) + 1))] H fun u H' => u = .t [.s H.length 0 (mendF l q).length (.u 0), .v (.int .i64 0)] ∧ H' = H ++ [⟨(mendF l q).flatMap (rowL .u16 12), 63, .own 12⟩] := by
  rw [mend_len]
  have hsol := h.solid
  have hL := h.lenV (P := Tryz.prog) slTy25
  obtain ⟨i, off, c, b, rfl, hat, hf⟩ := h.full (by omega)
  have hfl := Flat.flen (flat_rowL .u16 12) l
  rw [hfl] at hf
  refine cal_fn 42 mixed Tryz.func25 Tryz.ntmps25 Tryz.results25 rfl rfl rfl fun hw cx hx hq => ?_
  have hn : norefH H.length H := norefH_wf hw (Nat.le_refl _)
  have hij : (i = H.length) = False := eq_false (by have := hat.lt; omega)
  have e1 : ((q : Int) + 1 = 0) = False := eq_false (by omega)
  have e2 : ((q : Int) + 1 + 1 = l.length) = False := eq_false (by omega)
  have t0 : ((q : Int) + 1 - 1).toNat = q := by omega
  have t1 : ((q : Int) + 1).toNat = q + 1 := by omega
  have t2 : ((q : Int) + 1 + 1).toNat = q + 2 := by omega
  have a0 := hat.el hz12 (show q < l.length by omega)
  have a1 := hat.el hz12 (show q + 1 < l.length by omega)
  have a2 := hat.el hz12 (show q + 2 < l.length by omega)
  have hset := mend_set hq2
  repeat (first | (simp only [go_sem, Int.reduceLT, Int.reduceLE, Int.reduceEq, Int.reduceToNat, hp, e1, e2, hat.get, hat.live, hat.lt, hat.all hz12, hn, hij, hx, t0, t1, t2, hfl, hset]) | ((with_reducible refine And.intro ?_ ?_); omega) | ((with_reducible refine isSK ?_); first | (refine call_ret (l04Page h (by omega)) (by simp only [go_sem, Int.reduceLT, Int.reduceLE, Int.reduceEq, Int.reduceToNat, hp, e1, e2, hat.get, hat.live, hat.lt, hat.all hz12, hn, hij, hx, t0, t1, t2, hfl, hset]) ?_) | (refine call_ret (l04Most a0.app a1.app a2.app) (by simp only [go_sem, Int.reduceLT, Int.reduceLE, Int.reduceEq, Int.reduceToNat, hp, e1, e2, hat.get, hat.live, hat.lt, hat.all hz12, hn, hij, hx, t0, t1, t2, hfl, hset]) ?_)) | ((with_reducible refine isMC ?_); first | (refine mcall_ret (l04Page h (by omega)) (by simp only [go_sem, Int.reduceLT, Int.reduceLE, Int.reduceEq, Int.reduceToNat, hp, e1, e2, hat.get, hat.live, hat.lt, hat.all hz12, hn, hij, hx, t0, t1, t2, hfl, hset]) (by simp only [go_sem, Int.reduceLT, Int.reduceLE, Int.reduceEq, Int.reduceToNat, hp, e1, e2, hat.get, hat.live, hat.lt, hat.all hz12, hn, hij, hx, t0, t1, t2, hfl, hset]) ?_) | (refine mcall_ret (l04Most a0.app a1.app a2.app) (by simp only [go_sem, Int.reduceLT, Int.reduceLE, Int.reduceEq, Int.reduceToNat, hp, e1, e2, hat.get, hat.live, hat.lt, hat.all hz12, hn, hij, hx, t0, t1, t2, hfl, hset]) (by simp only [go_sem, Int.reduceLT, Int.reduceLE, Int.reduceEq, Int.reduceToNat, hp, e1, e2, hat.get, hat.live, hat.lt, hat.all hz12, hn, hij, hx, t0, t1, t2, hfl, hset]) ?_)) | ((with_reducible refine isWKr (id := 7) ?_); refine WK_drawAt 7 [[],[],[],[],[3],[2,3,4],[],[],[6,7],[],[],[10],[9,10,11],[2,3,4,5,6,7,8,9,10,11,12],[0,1,2,3,4,5,6,7,8,9,10,11,12,13],[0,1,2,3,4,5,6,7,8,9,10,11,12,13,14]] (by kernel_rfl) ?_) | ((with_reducible refine And.intro ?_ ?_); first | (with_reducible rfl) | assumption | (simp only [go_sem]; done)))
  refine ret_at hq _ (.inl rfl) (by simp) ?_
  simp [go_sem]
theorem implMendPage_err {H : List Blk} {v : V} {l : List (Nat → Int)} {p : Int} (h : Rd H v (rowL .u16 12) l) (hl : l.length ≤ 1000000) (hc : mendC l p ≠ 0) :
    Cal Tryz.prog 24 [v, .v (.int .i64 p)] H fun u H' => u = .t [.v (.slice none 0 0), .v (.int .i64 (mendC l p))] ∧ H' = H := by
  have hsol := h.solid
  have hL := h.lenV (P := Tryz.prog) slTy25
  refine cal_fn 44 mixed Tryz.func24 Tryz.ntmps24 Tryz.results24 rfl rfl rfl fun hw cx hx hq => ?_
  by_cases e : pageC l p = 0
  · by_cases e2 : p = 0
    · have hm : mendC l p = 6 := by unfold mendC; rw [if_pos e, if_pos (.inl e2)]
      subst e2
      repeat (first | (simp only [go_sem, Int.reduceLT, Int.reduceLE, Int.reduceEq, Int.reduceToNat, hsol, e]) | ((with_reducible refine And.intro ?_ ?_); omega) | ((with_reducible refine isSK ?_); first | (refine call_ret (checkPage h (by omega)) (by simp only [go_sem, Int.reduceLT, Int.reduceLE, Int.reduceEq, Int.reduceToNat, hsol, e]) ?_)) | ((with_reducible refine isMC ?_); first | (refine mcall_ret (checkPage h (by omega)) (by simp only [go_sem, Int.reduceLT, Int.reduceLE, Int.reduceEq, Int.reduceToNat, hsol, e]) (by simp only [go_sem, Int.reduceLT, Int.reduceLE, Int.reduceEq, Int.reduceToNat, hsol, e]) ?_)) | ((with_reducible refine isWKr (id := 7) ?_); refine WK_drawAt 7 [[],[],[],[],[3],[2,3,4],[2,3,4,5],[],[],[7,8],[7,8,9],[],[],[12],[11,12,13],[11,12,13,14],[2,3,4,5,6,7,8,9,10,11,12,13,14,15],[0,1,2,3,4,5,6,7,8,9,10,11,12,13,14,15,16],[0,1,2,3,4,5,6,7,8,9,10,11,12,13,14,15,16,17]] (by kernel_rfl) ?_) | ((with_reducible refine And.intro ?_ ?_); first | (with_reducible rfl) | assumption | (simp only [go_sem]; done)))
      refine ret_same hq _ (.inl rfl) ?_
      simp [go_sem, hm]
    · by_cases e3 : p + 1 = l.length
      · have hm : mendC l p = 6 := by unfold mendC; rw [if_pos e, if_pos (.inr e3)]
        have e4 : (p = (l.length : Int) - 1) = True := eq_true (by omega)
        repeat (first | (simp only [go_sem, Int.reduceLT, Int.reduceLE, Int.reduceEq, Int.reduceToNat, hsol, e, e2, hL, e4]) | ((with_reducible refine And.intro ?_ ?_); omega) | ((with_reducible refine isSK ?_); first | (refine call_ret (checkPage h (by omega)) (by simp only [go_sem, Int.reduceLT, Int.reduceLE, Int.reduceEq, Int.reduceToNat, hsol, e, e2, hL, e4]) ?_)) | ((with_reducible refine isMC ?_); first | (refine mcall_ret (checkPage h (by omega)) (by simp only [go_sem, Int.reduceLT, Int.reduceLE, Int.reduceEq, Int.reduceToNat, hsol, e, e2, hL, e4]) (by simp only [go_sem, Int.reduceLT, Int.reduceLE, Int.reduceEq, Int.reduceToNat, hsol, e, e2, hL, e4]) ?_)) | ((with_reducible refine isWKr (id := 7) ?_); refine WK_drawAt 7 [[],[],[],[],[3],[2,3,4],[2,3,4,5],[],[],[7,8],[7,8,9],[],[],[12],[11,12,13],[11,12,13,14],[2,3,4,5,6,7,8,9,10,11,12,13,14,15],[0,1,2,3,4,5,6,7,8,9,10,11,12,13,14,15,16],[0,1,2,3,4,5,6,7,8,9,10,11,12,13,14,15,16,17]] (by kernel_rfl) ?_) | ((with_reducible refine And.intro ?_ ?_); first | (with_reducible rfl) | assumption | (simp only [go_sem]; done)))
        refine ret_same hq _ (.inl rfl) ?_
        simp [go_sem, hm]
      · exfalso; apply hc; unfold mendC; rw [if_pos e, if_neg (by simp [e2, e3])]
  · have hm : mendC l p = pageC l p := by unfold mendC; rw [if_neg e]
    repeat (first | (simp only [go_sem, Int.reduceLT, Int.reduceLE, Int.reduceEq, Int.reduceToNat, hsol, e]) | ((with_reducible refine And.intro ?_ ?_); omega) | ((with_reducible refine isSK ?_); first | (refine call_ret (checkPage h (by omega)) (by simp only [go_sem, Int.reduceLT, Int.reduceLE, Int.reduceEq, Int.reduceToNat, hsol, e]) ?_)) | ((with_reducible refine isMC ?_); first | (refine mcall_ret (checkPage h (by omega)) (by simp only [go_sem, Int.reduceLT, Int.reduceLE, Int.reduceEq, Int.reduceToNat, hsol, e]) (by simp only [go_sem, Int.reduceLT, Int.reduceLE, Int.reduceEq, Int.reduceToNat, hsol, e]) ?_)) | ((with_reducible refine isWKr (id := 7) ?_); refine WK_drawAt 7 [[],[],[],[],[3],[2,3,4],[2,3,4,5],[],[],[7,8],[7,8,9],[],[],[12],[11,12,13],[11,12,13,14],[2,3,4,5,6,7,8,9,10,11,12,13,14,15],[0,1,2,3,4,5,6,7,8,9,10,11,12,13,14,15,16],[0,1,2,3,4,5,6,7,8,9,10,11,12,13,14,15,16,17]] (by kernel_rfl) ?_) | ((with_reducible refine And.intro ?_ ?_); first | (with_reducible rfl) | assumption | (simp only [go_sem]; done)))
    refine ret_same hq _ (.inl rfl) ?_
    simp [go_sem, hm]
theorem implMendPage_ok {H : List Blk} {v : V} {l : List (Nat → Int)} {q : Nat} (h : Rd H v (rowL .u16 12) l) (hl : l.length ≤ 1000000) (hp : pageC l ((q : Int) + 1) = 0) (hq2 : q + 2 < l.length) :
    Cal Tryz.prog 24 [v, .v (.int .i64 ((q : Int) + 1))] H fun u H' => u = .t [.s H.length 0 (mendF l q).length (.u 0), .v (.int .i64 0)] ∧ H' = H ++ [⟨(mendF l q).flatMap (rowL .u16 12), 63, .own 12⟩] := by
  rw [mend_len]
  have hsol := h.solid
  have hL := h.lenV (P := Tryz.prog) slTy25
  obtain ⟨i, off, c, b, rfl, hat, hf⟩ := h.full (by omega)
  have hfl := Flat.flen (flat_rowL .u16 12) l
  refine cal_fn 44 mixed Tryz.func24 Tryz.ntmps24 Tryz.results24 rfl rfl rfl fun hw cx hx hq => ?_
  have e1 : ((q : Int) + 1 = 0) = False := eq_false (by omega)
  have e2 : ((q : Int) + 1 = (l.length : Int) - 1) = False := eq_false (by omega)
  have t0 : ((q : Int) + 1 - 1).toNat = q := by omega
  have t1 : ((q : Int) + 1).toNat = q + 1 := by omega
  have t2 : ((q : Int) + 1 + 1).toNat = q + 2 := by omega
  have a0 := hat.elem (rowL .u16 12) 12 hz12 (show q < l.length by omega)
  have a1 := hat.elem (rowL .u16 12) 12 hz12 (show q + 1 < l.length by omega)
  have a2 := hat.elem (rowL .u16 12) 12 hz12 (show q + 2 < l.length by omega)
  have hset := mend_set hq2
  repeat (first | (simp only [go_sem, Int.reduceLT, Int.reduceLE, Int.reduceEq, Int.reduceToNat, hp, e1, e2, hat.get, hat.live, hat.lt, t0, t1, t2, hset, a0, a1, a2, hfl]) | ((with_reducible refine And.intro ?_ ?_); omega) | ((with_reducible refine isSK ?_); first | (refine call_ret (checkPage h (by omega)) (by simp only [go_sem, Int.reduceLT, Int.reduceLE, Int.reduceEq, Int.reduceToNat, hp, e1, e2, hat.get, hat.live, hat.lt, t0, t1, t2, hset, a0, a1, a2, hfl]) ?_) | (refine call_ret (cloneBook hat hf hl) (by simp only [go_sem, Int.reduceLT, Int.reduceLE, Int.reduceEq, Int.reduceToNat, hp, e1, e2, hat.get, hat.live, hat.lt, t0, t1, t2, hset, a0, a1, a2, hfl]) ?_) | (refine call_ret (majority) (by simp only [go_sem, Int.reduceLT, Int.reduceLE, Int.reduceEq, Int.reduceToNat, hp, e1, e2, hat.get, hat.live, hat.lt, t0, t1, t2, hset, a0, a1, a2, hfl]) ?_)) | ((with_reducible refine isMC ?_); first | (refine mcall_ret (checkPage h (by omega)) (by simp only [go_sem, Int.reduceLT, Int.reduceLE, Int.reduceEq, Int.reduceToNat, hp, e1, e2, hat.get, hat.live, hat.lt, t0, t1, t2, hset, a0, a1, a2, hfl]) (by simp only [go_sem, Int.reduceLT, Int.reduceLE, Int.reduceEq, Int.reduceToNat, hp, e1, e2, hat.get, hat.live, hat.lt, t0, t1, t2, hset, a0, a1, a2, hfl]) ?_) | (refine mcall_ret (cloneBook hat hf hl) (by simp only [go_sem, Int.reduceLT, Int.reduceLE, Int.reduceEq, Int.reduceToNat, hp, e1, e2, hat.get, hat.live, hat.lt, t0, t1, t2, hset, a0, a1, a2, hfl]) (by simp only [go_sem, Int.reduceLT, Int.reduceLE, Int.reduceEq, Int.reduceToNat, hp, e1, e2, hat.get, hat.live, hat.lt, t0, t1, t2, hset, a0, a1, a2, hfl]) ?_) | (refine mcall_ret (majority) (by simp only [go_sem, Int.reduceLT, Int.reduceLE, Int.reduceEq, Int.reduceToNat, hp, e1, e2, hat.get, hat.live, hat.lt, t0, t1, t2, hset, a0, a1, a2, hfl]) (by simp only [go_sem, Int.reduceLT, Int.reduceLE, Int.reduceEq, Int.reduceToNat, hp, e1, e2, hat.get, hat.live, hat.lt, t0, t1, t2, hset, a0, a1, a2, hfl]) ?_)) | ((with_reducible refine isWKr (id := 7) ?_); refine WK_drawAt 7 [[],[],[],[],[3],[2,3,4],[2,3,4,5],[],[],[7,8],[7,8,9],[],[],[12],[11,12,13],[11,12,13,14],[2,3,4,5,6,7,8,9,10,11,12,13,14,15],[0,1,2,3,4,5,6,7,8,9,10,11,12,13,14,15,16],[0,1,2,3,4,5,6,7,8,9,10,11,12,13,14,15,16,17]] (by kernel_rfl) ?_) | ((with_reducible refine And.intro ?_ ?_); first | (with_reducible rfl) | assumption | (simp only [go_sem]; done)))
  refine ret_at hq _ (.inl rfl) (by simp) ?_
  simp [go_sem]
end Go.Proofs.YtaekjojblkhfdaaGreat
namespace Go.Proofs.YtaekjojblkhfdaaGreat
open Go Go.Sx
theorem onesCount16 {H : List Blk} {x : Int} (h0 : 0 ≤ x ∧ x < 65536) : Cal Tryz.prog 93 [.v (.int .u16 x)] H fun v H' => v = .v (.int .i64 (pc x.toNat)) ∧ H' = H := by
  have tab : ∀ n : Nat, n < 256 → ((({ data := (([0, 1, 1, 2, 1, 2, 2, 3, 1, 2, 2, 3, 2, 3, 3, 4, 1, 2, 2, 3, 2, 3, 3, 4, 2, 3, 3, 4, 3, 4, 4, 5, 1, 2, 2, 3, 2, 3, 3, 4, 2, 3, 3, 4, 3, 4, 4, 5, 2, 3, 3, 4, 3, 4, 4, 5, 3, 4, 4, 5, 4, 5, 5, 6].append [1, 2, 2, 3, 2, 3, 3, 4, 2, 3, 3, 4, 3, 4, 4, 5, 2, 3, 3, 4, 3, 4, 4, 5, 3, 4, 4, 5, 4, 5, 5, 6, 2, 3, 3, 4, 3, 4, 4, 5, 3, 4, 4, 5, 4, 5, 5, 6, 3, 4, 4, 5, 4, 5, 5, 6, 4, 5, 5, 6, 5, 6, 6, 7]).append ([1, 2, 2, 3, 2, 3, 3, 4, 2, 3, 3, 4, 3, 4, 4, 5, 2, 3, 3, 4, 3, 4, 4, 5, 3, 4, 4, 5, 4, 5, 5, 6, 2, 3, 3, 4, 3, 4, 4, 5, 3, 4, 4, 5, 4, 5, 5, 6, 3, 4, 4, 5, 4, 5, 5, 6, 4, 5, 5, 6, 5, 6, 6, 7].append [2, 3, 3, 4, 3, 4, 4, 5, 3, 4, 4, 5, 4, 5, 5, 6, 3, 4, 4, 5, 4, 5, 5, 6, 4, 5, 5, 6, 5, 6, 6, 7, 3, 4, 4, 5, 4, 5, 5, 6, 4, 5, 5, 6, 5, 6, 6, 7, 4, 5, 5, 6, 5, 6, 6, 7, 5, 6, 6, 7, 6, 7, 7, 8])).toArray } : ByteArray).data.toList[n]?.getD 0).toNat) = pc8 n := by decide +kernel
  have hs : ({ data := (([0, 1, 1, 2, 1, 2, 2, 3, 1, 2, 2, 3, 2, 3, 3, 4, 1, 2, 2, 3, 2, 3, 3, 4, 2, 3, 3, 4, 3, 4, 4, 5, 1, 2, 2, 3, 2, 3, 3, 4, 2, 3, 3, 4, 3, 4, 4, 5, 2, 3, 3, 4, 3, 4, 4, 5, 3, 4, 4, 5, 4, 5, 5, 6].append [1, 2, 2, 3, 2, 3, 3, 4, 2, 3, 3, 4, 3, 4, 4, 5, 2, 3, 3, 4, 3, 4, 4, 5, 3, 4, 4, 5, 4, 5, 5, 6, 2, 3, 3, 4, 3, 4, 4, 5, 3, 4, 4, 5, 4, 5, 5, 6, 3, 4, 4, 5, 4, 5, 5, 6, 4, 5, 5, 6, 5, 6, 6, 7]).append ([1, 2, 2, 3, 2, 3, 3, 4, 2, 3, 3, 4, 3, 4, 4, 5, 2, 3, 3, 4, 3, 4, 4, 5, 3, 4, 4, 5, 4, 5, 5, 6, 2, 3, 3, 4, 3, 4, 4, 5, 3, 4, 4, 5, 4, 5, 5, 6, 3, 4, 4, 5, 4, 5, 5, 6, 4, 5, 5, 6, 5, 6, 6, 7].append [2, 3, 3, 4, 3, 4, 4, 5, 3, 4, 4, 5, 4, 5, 5, 6, 3, 4, 4, 5, 4, 5, 5, 6, 4, 5, 5, 6, 5, 6, 6, 7, 3, 4, 4, 5, 4, 5, 5, 6, 4, 5, 5, 6, 5, 6, 6, 7, 4, 5, 5, 6, 5, 6, 6, 7, 5, 6, 6, 7, 6, 7, 7, 8])).toArray } : ByteArray).size = 256 := by decide +kernel
  refine cal_fn 10 mixed Tryz.func93 Tryz.ntmps93 Tryz.results93 rfl rfl rfl fun hw cx hx hq => ?_
  generalize ({ data := (([0, 1, 1, 2, 1, 2, 2, 3, 1, 2, 2, 3, 2, 3, 3, 4, 1, 2, 2, 3, 2, 3, 3, 4, 2, 3, 3, 4, 3, 4, 4, 5, 1, 2, 2, 3, 2, 3, 3, 4, 2, 3, 3, 4, 3, 4, 4, 5, 2, 3, 3, 4, 3, 4, 4, 5, 3, 4, 4, 5, 4, 5, 5, 6].append [1, 2, 2, 3, 2, 3, 3, 4, 2, 3, 3, 4, 3, 4, 4, 5, 2, 3, 3, 4, 3, 4, 4, 5, 3, 4, 4, 5, 4, 5, 5, 6, 2, 3, 3, 4, 3, 4, 4, 5, 3, 4, 4, 5, 4, 5, 5, 6, 3, 4, 4, 5, 4, 5, 5, 6, 4, 5, 5, 6, 5, 6, 6, 7]).append ([1, 2, 2, 3, 2, 3, 3, 4, 2, 3, 3, 4, 3, 4, 4, 5, 2, 3, 3, 4, 3, 4, 4, 5, 3, 4, 4, 5, 4, 5, 5, 6, 2, 3, 3, 4, 3, 4, 4, 5, 3, 4, 4, 5, 4, 5, 5, 6, 3, 4, 4, 5, 4, 5, 5, 6, 4, 5, 5, 6, 5, 6, 6, 7].append [2, 3, 3, 4, 3, 4, 4, 5, 3, 4, 4, 5, 4, 5, 5, 6, 3, 4, 4, 5, 4, 5, 5, 6, 4, 5, 5, 6, 5, 6, 6, 7, 3, 4, 4, 5, 4, 5, 5, 6, 4, 5, 5, 6, 5, 6, 6, 7, 4, 5, 5, 6, 5, 6, 6, 7, 5, 6, 6, 7, 6, 7, 7, 8])).toArray } : ByteArray) = s at tab hs ⊢
  obtain ⟨n, rfl⟩ := Int.eq_ofNat_of_zero_le h0.1
  have e1 : ((n : Int).fdiv (2 ^ min (Int.toNat 8) 16)).toNat = n / 256 := by
    have : (n : Int).fdiv (2 ^ min (Int.toNat 8) 16) = ((n / 256 : Nat) : Int) := by
      show (n : Int).fdiv 256 = _
      rw [Int.fdiv_eq_ediv_of_nonneg _ (by omega)]; omega
    rw [this, Int.toNat_natCast]
  have e1' : (n : Int).fdiv (2 ^ min (Int.toNat 8) 16) = ((n / 256 : Nat) : Int) := by
    show (n : Int).fdiv 256 = _
    rw [Int.fdiv_eq_ediv_of_nonneg _ (by omega)]; omega
  have e1q : (n : Int).fdiv (2 ^ min 8 16) = ((n / 256 : Nat) : Int) := e1'
  have e2 : bits .and .u16 (n : Int) 255 = ((n % 256 : Nat) : Int) := by
    rw [show (255 : Int) = ((255 : Nat) : Int) from rfl, u16_and_nat _ _ (by omega) (by omega)]
    have : n &&& 255 = n % 256 := Nat.and_two_pow_sub_one_eq_mod n 8
    rw [this]
  have t1 := tab (n / 256) (by omega)
  have t2 := tab (n % 256) (by omega)
  have hpc := pc_split (n := n) (by omega)
  have l1 : pc8 (n / 256) ≤ 8 := by unfold pc8; exact Nat.le_trans (List.length_filter_le _ _) (by simp)
  have l2 : pc8 (n % 256) ≤ 8 := by unfold pc8; exact Nat.le_trans (List.length_filter_le _ _) (by simp)
  have hwr : IntKind.u8.wrap ((pc8 (n / 256) : Int) + (pc8 (n % 256) : Int)) = ((pc n : Nat) : Int) := by
    rw [hpc]; unfold IntKind.wrap; simp only [IntKind.bits, IntKind.signed, Bool.false_and]; simp; omega
  repeat (first | (simp only [go_sem, Int.reduceLT, Int.reduceLE, Int.reduceEq, Int.reduceToNat, hs, e1', e1q, e2, t1, t2, hwr, Int.toNat_natCast]) | ((with_reducible refine And.intro ?_ ?_); omega) | ((with_reducible refine isWKr (id := 1) ?_); refine WK_drawAt 1 [[],[0],[0,1],[],[3],[3,4],[0,1,2,3,4,5],[0,1,2,3,4,5,6],[0,1,2,3,4,5,6,7]] (by kernel_rfl) ?_) | ((with_reducible refine And.intro ?_ ?_); first | (with_reducible rfl) | assumption | (simp only [go_sem]; done)))
  refine ret_same hq _ (.inl rfl) ?_
  simp [go_sem]
theorem count {H : List Blk} {f : Nat → Int} (hf : F12 f) : Cal Tryz.prog 70 [.a (rowL .u16 12 (f))] H fun v H' => v = .v (.int .i64 (dotsF f).length) ∧ H' = H := by
  refine cal_fn 15 mixed Tryz.func70 Tryz.ntmps70 Tryz.results70 rfl rfl rfl fun hw cx hx hq => ?_
  repeat (first | (simp only [go_sem, Int.reduceLT, Int.reduceLE, Int.reduceEq, Int.reduceToNat]) | ((with_reducible refine And.intro ?_ ?_); omega) | ((with_reducible refine And.intro ?_ ?_); first | (with_reducible rfl) | assumption | (simp only [go_sem]; done)))
  refine WK_for (fun n : Nat => ⟨[.any, .any, .any, .v (.int .i64 (cntTo f n)), .any, .any, .a (rowL .u16 12 (f)), .v (.int .i64 n)] ++ junk 8, H⟩) (fun n => n ≤ 12) (fun n => 12 - n) 0 ?_ ?_ fun n hn => ?_
  · refine Weak.both (H := H) (L := [⟨rowL .u16 12 (f), 63, .fix⟩]) rfl ?_ (by simp [hx]) ?_ hw
    · simp [go_sem, cntTo_zero]
    · simp [go_sem]
  · simp
  rcases Int.lt_or_le (n : Int) 12 with hc | hc
  · have hj : n < 12 := by omega
    have hfj := hf n hj
    have hsucc := cntTo_succ hf hj
    have hle := cntTo_le f (n + 1)
    repeat (first | (simp only [go_sem, Int.reduceLT, Int.reduceLE, Int.reduceEq, Int.reduceToNat, hc, rowL_cel _ _ _ hj]) | ((with_reducible refine And.intro ?_ ?_); omega) | ((with_reducible refine isSK ?_); first | (refine call_ret (onesCount16 (by omega)) (by simp only [go_sem, Int.reduceLT, Int.reduceLE, Int.reduceEq, Int.reduceToNat, hc, rowL_cel _ _ _ hj]) ?_)) | ((with_reducible refine And.intro ?_ ?_); first | (with_reducible rfl) | assumption | (simp only [go_sem]; done)))
    refine EK_again (n + 1) ?_ (by omega) (by omega)
    rw [hsucc]
    exact Weak.slots (by simp [go_sem])
  · have : n = 12 := by omega
    subst this
    repeat (first | (simp only [go_sem, Int.reduceLT, Int.reduceLE, Int.reduceEq, Int.reduceToNat, Int.not_lt.2 hc]) | ((with_reducible refine And.intro ?_ ?_); omega) | ((with_reducible refine And.intro ?_ ?_); first | (with_reducible rfl) | assumption | (simp only [go_sem]; done)))
    refine ret_same hq _ (.inl rfl) ?_
    simp only [go_sem, cntTo_all]
def xorF (f g : Nat → Int) (j : Nat) : Int := bits .xor .u16 (f j) (g j)
theorem differ1 {H : List Blk} {x y : Int} : Cal Tryz.prog 92 [.v (.int .u16 x), .v (.int .u16 y)] H fun v H' => v = .v (.int .u16 (bits .xor .u16 x y)) ∧ H' = H := by
  refine cal_fn 6 mixed Tryz.func92 Tryz.ntmps92 Tryz.results92 rfl rfl rfl fun hw cx hx hq => ?_
  simp only [go_sem]
  refine ret_same hq _ (.inl rfl) ?_
  simp only [go_sem]
theorem differ {H : List Blk} {f g : Nat → Int} : Cal Tryz.prog 69 [.a (rowL .u16 12 (f)), .a (rowL .u16 12 (g))] H fun v H' => v = .a (rowL .u16 12 (xorF f g)) ∧ H' = H := by
  refine cal_fn 6 mixed Tryz.func69 Tryz.ntmps69 Tryz.results69 rfl rfl rfl fun hw cx hx hq => ?_
  repeat (first | (simp only [go_sem, Int.reduceLT, Int.reduceLE, Int.reduceEq, Int.reduceToNat, rowL_rep]) | ((with_reducible refine And.intro ?_ ?_); omega) | ((with_reducible refine isSK ?_); first | (refine call_ret (mix (h := xorF f g) fun j _ L => differ1) (by simp only [go_sem, Int.reduceLT, Int.reduceLE, Int.reduceEq, Int.reduceToNat, rowL_rep]) ?_)) | ((with_reducible refine And.intro ?_ ?_); first | (with_reducible rfl) | assumption | (simp only [go_sem]; done)))
  refine ret_cut hq hw _ (.inl rfl) ?_
  simp only [go_sem]
theorem xorF_12 {f g : Nat → Int} (h : F12 f) (h2 : F12 g) : F12 (xorF f g) := fun j hj => by
  have a := h j hj
  have b := h2 j hj
  unfold xorF
  rw [u16_xor _ _ a.1 (by omega) b.1 (by omega)]
  have := Nat.xor_lt_two_pow (n := 12) (x := (f j).toNat) (y := (g j).toNat) (by omega) (by omega)
  omega
def jumpF (f g : Nat → Int) : Int := (dotsF (xorF f g)).length
theorem jumpF_le (f g : Nat → Int) : 0 ≤ jumpF f g ∧ jumpF f g ≤ 144 := by unfold jumpF; have := dotsF_le (xorF f g); omega
theorem jump {H : List Blk} {f g : Nat → Int} (hf : F12 f) (hg : F12 g) : Cal Tryz.prog 45 [.a (rowL .u16 12 (f)), .a (rowL .u16 12 (g))] H fun v H' => v = .v (.int .i64 (jumpF f g)) ∧ H' = H := by
  refine cal_fn 7 mixed Tryz.func45 Tryz.ntmps45 Tryz.results45 rfl rfl rfl fun hw cx hx hq => ?_
  repeat (first | (simp only [go_sem, Int.reduceLT, Int.reduceLE, Int.reduceEq, Int.reduceToNat]) | ((with_reducible refine And.intro ?_ ?_); omega) | ((with_reducible refine isSK ?_); first | (refine call_ret (differ) (by simp only [go_sem, Int.reduceLT, Int.reduceLE, Int.reduceEq, Int.reduceToNat]) ?_) | (refine call_ret (count (xorF_12 hf hg)) (by simp only [go_sem, Int.reduceLT, Int.reduceLE, Int.reduceEq, Int.reduceToNat]) ?_)) | ((with_reducible refine And.intro ?_ ?_); first | (with_reducible rfl) | assumption | (simp only [go_sem]; done)))
  refine ret_cut hq hw _ (.inl rfl) ?_
  simp only [go_sem, jumpF]
theorem l01Count {H : List Blk} {i off : Nat} {f : Nat → Int} {b : Blk} (h : At H i off (rowL .u16 12 (f)) b) (hf : R16 f) : Cal Tryz.prog 94 [.p i off] H fun v H' => v = .v (.int .i64 (dotsF f).length) ∧ H' = H := by
  refine cal_fn 5 mixed Tryz.func94 Tryz.ntmps94 Tryz.results94 rfl rfl rfl fun hw cx hx hq => ?_
  repeat (first | (simp only [go_sem, Int.reduceLT, Int.reduceLE, Int.reduceEq, Int.reduceToNat]) | ((with_reducible refine And.intro ?_ ?_); omega) | ((with_reducible refine isSK ?_); first | (refine call_ret (l01Dots h hf) (by simp only [go_sem, Int.reduceLT, Int.reduceLE, Int.reduceEq, Int.reduceToNat]) ?_)) | ((with_reducible refine And.intro ?_ ?_); first | (with_reducible rfl) | assumption | (simp only [go_sem]; done)))
  refine ret_cut hq hw _ (.inl rfl) ?_
  simp only [go_sem]
theorem l01Differ {H : List Blk} {i off j o2 : Nat} {f g : Nat → Int} {b b2 : Blk} (h : At H i off (rowL .u16 12 (f)) b) (h2 : At H j o2 (rowL .u16 12 (g)) b2) (hf : F12 f) (hg : F12 g) : Cal Tryz.prog 74 [.p i off, .p j o2] H fun v H' => v = .v (.int .i64 (jumpF f g)) ∧ H' = H := by
  refine cal_fn 24 mixed Tryz.func74 Tryz.ntmps74 Tryz.results74 rfl rfl rfl fun hw cx hx hq => ?_
  simp only [go_sem, rowL_rep]
  refine WK_for (fun n : Nat => ⟨[.p i off, .p j o2, .any, .any, .any, .p H.length 0, .v (.int .i64 n)] ++ junk 19, H ++ [⟨rowL .u16 12 (pfx (xorF f g) (fun _ => 0) n), 63, .fix⟩]⟩) (fun n => n ≤ 12) (fun n => 12 - n) 0 (Weak.slots ?_) ?_ fun n hn => ?_
  · simp [go_sem, pfx_zero]
  · simp
  rcases Int.lt_or_le (n : Int) 12 with hc | hc
  · have hj : n < 12 := by omega
    have l1 := h.len (by simp [go_sem])
    have l2 := h2.len (by simp [go_sem])
    simp only [go_sem] at l1 l2
    repeat (first | (simp only [go_sem, Int.reduceLT, Int.reduceLE, Int.reduceEq, Int.reduceToNat, hc, h.lt, h.get, h.live, h.cel hj, h2.lt, h2.get, h2.live, h2.cel hj]) | ((with_reducible refine And.intro ?_ ?_); omega) | ((with_reducible refine isWKr (id := 5) ?_); refine WK_drawAt 5 [[],[],[],[1],[1,2,3],[1,2,3,4],[],[],[6],[6,7,8],[6,7,8,9],[1,2,3,4,5,6,7,8,9,10],[0,1,2,3,4,5,6,7,8,9,10,11],[0,1,2,3,4,5,6,7,8,9,10,11,12]] (by kernel_rfl) ?_) | ((with_reducible refine And.intro ?_ ?_); first | (with_reducible rfl) | assumption | (simp only [go_sem]; done)))
    refine EK_again (n + 1) ?_ (by omega) (by omega)
    rw [wr_pfx .u16 (xorF f g) _ hj (show bits .xor .u16 (f n) (g n) = xorF f g n from rfl)]
    exact Weak.slots (by simp [go_sem])
  · have : n = 12 := by omega
    subst this
    repeat (first | (simp only [go_sem, Int.reduceLT, Int.reduceLE, Int.reduceEq, Int.reduceToNat, Int.not_lt.2 hc, pfx_all]) | ((with_reducible refine And.intro ?_ ?_); omega) | ((with_reducible refine isSK ?_); first | (refine call_ret (l01Count (At.mk0 rfl) (xorF_12 hf hg).r16) (by simp only [go_sem, Int.reduceLT, Int.reduceLE, Int.reduceEq, Int.reduceToNat, Int.not_lt.2 hc, pfx_all]) ?_)) | ((with_reducible refine isMC ?_); first | (refine mcall_ret (l01Count (At.mk0 rfl) (xorF_12 hf hg).r16) (by simp only [go_sem, Int.reduceLT, Int.reduceLE, Int.reduceEq, Int.reduceToNat, Int.not_lt.2 hc, pfx_all]) (by simp only [go_sem, Int.reduceLT, Int.reduceLE, Int.reduceEq, Int.reduceToNat, Int.not_lt.2 hc, pfx_all]) ?_)) | ((with_reducible refine isWKr (id := 5) ?_); refine WK_drawAt 5 [[],[],[],[1],[1,2,3],[1,2,3,4],[],[],[6],[6,7,8],[6,7,8,9],[1,2,3,4,5,6,7,8,9,10],[0,1,2,3,4,5,6,7,8,9,10,11],[0,1,2,3,4,5,6,7,8,9,10,11,12]] (by kernel_rfl) ?_) | ((with_reducible refine And.intro ?_ ?_); first | (with_reducible rfl) | assumption | (simp only [go_sem]; done)))
    refine ret_cut hq hw _ (.inl rfl) ?_
    simp only [go_sem, jumpF]
end Go.Proofs.YtaekjojblkhfdaaGreat
namespace Go.Proofs.YtaekjojblkhfdaaGreat
open Go Go.Sx
theorem isPlace {H : List Blk} {a b : Int} : Cal Tryz.prog 116 [.v (.int .i64 a), .v (.int .i64 b)] H fun v H' => v = .v (.bool (placeB a b)) ∧ H' = H := by
  refine cal_fn 9 mixed Tryz.func116 Tryz.ntmps116 Tryz.results116 rfl rfl rfl fun hw cx hx hq => ?_
  cases e : (decide (0 ≤ a) && decide (a ≤ 11))
  · repeat (first | (simp only [go_sem, Int.reduceLT, Int.reduceLE, Int.reduceEq, Int.reduceToNat, e]) | ((with_reducible refine And.intro ?_ ?_); omega) | ((with_reducible refine isSK ?_); first | (refine call_ret (inRange) (by simp only [go_sem, Int.reduceLT, Int.reduceLE, Int.reduceEq, Int.reduceToNat, e]) ?_)) | ((with_reducible refine And.intro ?_ ?_); first | (with_reducible rfl) | assumption | (simp only [go_sem]; done)))
    refine ret_same hq _ (.inl rfl) ?_
    simp [go_sem, placeB, e]
  · repeat (first | (simp only [go_sem, Int.reduceLT, Int.reduceLE, Int.reduceEq, Int.reduceToNat, e]) | ((with_reducible refine And.intro ?_ ?_); omega) | ((with_reducible refine isSK ?_); first | (refine call_ret (inRange) (by simp only [go_sem, Int.reduceLT, Int.reduceLE, Int.reduceEq, Int.reduceToNat, e]) ?_)) | ((with_reducible refine And.intro ?_ ?_); first | (with_reducible rfl) | assumption | (simp only [go_sem]; done)))
    refine ret_same hq _ (.inl rfl) ?_
    simp [go_sem, placeB, e]
theorem and_dot {a x : Int} (ha : 0 ≤ a) (ha2 : a < 65536) (hx : 0 ≤ x) (hx2 : x ≤ 15) : decide (bits .and .u16 (a.fdiv (2 ^ (min x.toNat 16))) 1 = 1) = a.toNat.testBit x.toNat := by
  have h := shr_dot ha hx hx2
  rw [wrap_u64 hx (by omega)] at h
  rw [← h]
  have hp : (0 : Int) ≤ 2 ^ (min x.toNat 16) := by exact_mod_cast Nat.zero_le (2 ^ (min x.toNat 16))
  have h0 : 0 ≤ a.fdiv (2 ^ (min x.toNat 16)) := Int.fdiv_nonneg ha hp
  have h1 : a.fdiv (2 ^ (min x.toNat 16)) ≤ a := by rw [Int.fdiv_eq_ediv_of_nonneg _ hp]; exact Int.ediv_le_self _ ha
  generalize a.fdiv (2 ^ (min x.toNat 16)) = q at h0 h1
  obtain ⟨n, rfl⟩ := Int.eq_ofNat_of_zero_le h0
  have h2 := u16_and_nat n 1 (by omega) (by omega)
  rw [Nat.and_one_is_mod] at h2
  have h3 : bits .and .u16 (n : Int) 1 = ((n % 2 : Nat) : Int) := h2
  rw [h3, Int.tmod_eq_emod_of_nonneg h0]
  congr 1
theorem has {H : List Blk} {f : Nat → Int} {a c : Int} (hf : R16 f) : Cal Tryz.prog 96 [.a (rowL .u16 12 (f)), .v (.int .i64 a), .v (.int .i64 c)] H fun v H' => v = .v (.bool (hasF f a c)) ∧ H' = H := by
  refine cal_fn 16 mixed Tryz.func96 Tryz.ntmps96 Tryz.results96 rfl rfl rfl fun hw cx hx hq => ?_
  cases e : placeB a c
  · repeat (first | (simp only [go_sem, Int.reduceLT, Int.reduceLE, Int.reduceEq, Int.reduceToNat, e]) | ((with_reducible refine And.intro ?_ ?_); omega) | ((with_reducible refine isSK ?_); first | (refine call_ret (isPlace) (by simp only [go_sem, Int.reduceLT, Int.reduceLE, Int.reduceEq, Int.reduceToNat, e]) ?_)) | ((with_reducible refine And.intro ?_ ?_); first | (with_reducible rfl) | assumption | (simp only [go_sem]; done)))
    refine ret_cut hq hw _ (.inl rfl) ?_
    simp [go_sem, hasF, e]
  · have e' := placeB_iff.1 e
    have h16 := hf c.toNat (by omega)
    repeat (first | (simp only [go_sem, Int.reduceLT, Int.reduceLE, Int.reduceEq, Int.reduceToNat, e, rowL_cel _ _ _ (show c.toNat < 12 by omega), and_dot h16.1 h16.2 e'.1.1 (by omega)]) | ((with_reducible refine And.intro ?_ ?_); omega) | ((with_reducible refine isSK ?_); first | (refine call_ret (isPlace) (by simp only [go_sem, Int.reduceLT, Int.reduceLE, Int.reduceEq, Int.reduceToNat, e, rowL_cel _ _ _ (show c.toNat < 12 by omega), and_dot h16.1 h16.2 e'.1.1 (by omega)]) ?_)) | ((with_reducible refine And.intro ?_ ?_); first | (with_reducible rfl) | assumption | (simp only [go_sem]; done)))
    refine ret_cut hq hw _ (.inl rfl) ?_
    simp [go_sem, hasF, e, dot]
theorem dots {H : List Blk} {f : Nat → Int} (hf : R16 f) :
    Cal Tryz.prog 78 [.a (rowL .u16 12 (f))] H fun v H' => v = .s H.length 0 (dotsF f).length (.u 0) ∧ H' = H ++ [⟨(dotsF f).flatMap dotL, 101, .own 2⟩] := by
  refine cal_fn 27 mixed Tryz.func78 Tryz.ntmps78 Tryz.results78 rfl rfl rfl fun hw cx hx hq => ?_
  repeat (first | (simp only [go_sem, Int.reduceLT, Int.reduceLE, Int.reduceEq, Int.reduceToNat]) | ((with_reducible refine And.intro ?_ ?_); omega) | ((with_reducible refine And.intro ?_ ?_); first | (with_reducible rfl) | assumption | (simp only [go_sem]; done)))
  refine WK_for (fun y : Nat => ⟨[.any, .p H.length 0, .any, .s (H.length + 1) 0 (dotsTo f (y * 12)).length (.u 0), .any, .any, .any, .v (.int .i64 y)] ++ junk 20, H ++ [⟨rowL .u16 12 (f), 63, .fix⟩, ⟨(dotsTo f (y * 12)).flatMap dotL, 101, .own 2⟩]⟩) (fun y => y ≤ 12) (fun y => 12 - y) 0 (Weak.slots ?_) ?_ fun y hy => ?_
  · simp [go_sem, dotsTo]
  · simp
  rcases Int.lt_or_le (y : Int) 12 with hc | hc
  · repeat (first | (simp only [go_sem, Int.reduceLT, Int.reduceLE, Int.reduceEq, Int.reduceToNat, hc]) | ((with_reducible refine And.intro ?_ ?_); omega) | ((with_reducible refine And.intro ?_ ?_); first | (with_reducible rfl) | assumption | (simp only [go_sem]; done)))
    refine WK_for (fun z : Nat => ⟨[.any, .p H.length 0, .any, .s (H.length + 1) 0 (dotsTo f (y * 12 + z)).length (.u 0), .v (.int .i64 y), .any, .any, .v (.int .i64 y), .any, .any, .v (.int .i64 z)] ++ junk 17, H ++ [⟨rowL .u16 12 (f), 63, .fix⟩, ⟨(dotsTo f (y * 12 + z)).flatMap dotL, 101, .own 2⟩]⟩) (fun z => z ≤ 12) (fun z => 12 - z) 0 (Weak.slots ?_) ?_ fun z hz => ?_
    · simp [go_sem]
    · simp
    rcases Int.lt_or_le (z : Int) 12 with hc2 | hc2
    · have hdot : hasF f z y = dot f z y := by simp [hasF, placeB]; omega
      have hk1 : (y * 12 + z) % 12 = z := by omega
      have hk2 : (y * 12 + z) / 12 = y := by omega
      have hsucc := dotsTo_succ f (y * 12 + z)
      rw [hk1, hk2] at hsucc
      have hlen := dotsTo_len f (y * 12 + z)
      repeat (first | (simp only [go_sem, Int.reduceLT, Int.reduceLE, Int.reduceEq, Int.reduceToNat, hc2, hdot]) | ((with_reducible refine And.intro ?_ ?_); omega) | ((with_reducible refine isSK ?_); first | (refine call_ret (has hf) (by simp only [go_sem, Int.reduceLT, Int.reduceLE, Int.reduceEq, Int.reduceToNat, hc2, hdot]) ?_)) | ((with_reducible refine And.intro ?_ ?_); first | (with_reducible rfl) | assumption | (simp only [go_sem]; done)))
      cases e : dot f z y
      · repeat (first | (simp only [go_sem, Int.reduceLT, Int.reduceLE, Int.reduceEq, Int.reduceToNat]) | ((with_reducible refine And.intro ?_ ?_); omega) | ((with_reducible refine And.intro ?_ ?_); first | (with_reducible rfl) | assumption | (simp only [go_sem]; done)))
        have e2 : dotsTo f (y * 12 + (z + 1)) = dotsTo f (y * 12 + z) := by rw [← Nat.add_assoc, hsucc, e]; simp
        refine EK_again (z + 1) ?_ (by omega) (by omega)
        simp only [e2]
        exact Weak.slots (by simp [go_sem])
      · have e2 : dotsTo f (y * 12 + (z + 1)) = dotsTo f (y * 12 + z) ++ [y * 12 + z] := by rw [← Nat.add_assoc, hsucc, e]; simp
        have hl2 := flat_len dotL 2 dotL_len (dotsTo f (y * 12 + z))
        have hn : norefH (H.length + 1) H := norefH_wf hw (by omega)
        have hn2 : norefs (H.length + 1) ((dotsTo f (y * 12 + z)).flatMap dotL) = true := lts_norefs (Nat.le_refl _) _ (dots_lts _ _)
        repeat (first | (simp only [go_sem, Int.reduceLT, Int.reduceLE, Int.reduceEq, Int.reduceToNat, wrap_i8 (show (-128 : Int) ≤ z by omega) (by omega), wrap_i8 (show (-128 : Int) ≤ y by omega) (by omega), hl2, hn, hn2, hx]) | ((with_reducible refine And.intro ?_ ?_); omega) | ((with_reducible refine And.intro ?_ ?_); first | (with_reducible rfl) | assumption | (simp only [go_sem]; done)))
        refine EK_again (z + 1) ?_ (by omega) (by omega)
        have e3 : (dotsTo f (y * 12 + z) ++ [y * 12 + z]).flatMap dotL = (dotsTo f (y * 12 + z)).flatMap dotL ++ [.v (.int .i8 z), .v (.int .i8 y)] := by
          rw [List.flatMap_append]; simp [dotL, hk1, hk2]
        simp only [e2, e3]
        refine Weak.both (H := H ++ [⟨rowL .u16 12 (f), 63, .fix⟩, ⟨(dotsTo f (y * 12 + z)).flatMap dotL ++ [.v (.int .i8 z), .v (.int .i8 y)], 101, .own 2⟩]) (L := [⟨[.v (.int .i8 z), .v (.int .i8 y)], 101, .own 2⟩]) ?_ ?_ ?_ ?_ (hw.app ?_)
        · simp
        · simp [go_sem]
        · simp [hx]
        · simp [go_sem]
        · simp [go_sem, dots_lts]
    · have : z = 12 := by omega
      subst this
      have e2 : y * 12 + 12 = (y + 1) * 12 := by omega
      repeat (first | (simp only [go_sem, Int.reduceLT, Int.reduceLE, Int.reduceEq, Int.reduceToNat, Int.not_lt.2 hc2]) | ((with_reducible refine And.intro ?_ ?_); omega) | ((with_reducible refine And.intro ?_ ?_); first | (with_reducible rfl) | assumption | (simp only [go_sem]; done)))
      refine EK_again (y + 1) ?_ (by omega) (by omega)
      simp only [e2]
      exact Weak.slots (by simp [go_sem])
  · have : y = 12 := by omega
    subst this
    repeat (first | (simp only [go_sem, Int.reduceLT, Int.reduceLE, Int.reduceEq, Int.reduceToNat, Int.not_lt.2 hc]) | ((with_reducible refine And.intro ?_ ?_); omega) | ((with_reducible refine And.intro ?_ ?_); first | (with_reducible rfl) | assumption | (simp only [go_sem]; done)))
    refine ret_one hq hw _ (.inl rfl) 1 rfl (dots_lts _ _) (.s H.length 0 (dotsF f).length (.u 0)) (by simp [go_sem]) ?_
    simp [go_sem, conc, upσ, dotsF, Cap.val]
end Go.Proofs.YtaekjojblkhfdaaGreat
