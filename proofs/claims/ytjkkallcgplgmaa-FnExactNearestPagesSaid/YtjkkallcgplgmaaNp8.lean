/- Contracts of functions of the translated program, by the walk. -/
import Derived.Test.YtjkkallcgplgmaaNp7
set_option linter.unusedVariables false
set_option linter.unusedSimpArgs false
set_option maxRecDepth 8000
set_option maxHeartbeats 4000000
namespace Go.Proofs.Ytjkkallcgplgmaa
open Go Go.Sx
theorem rd_cells {α : Type} {H : List Blk} {v : V} {enc : α → List V} {l : List α} (h : Rd H v enc l) : cellsL v = [v] := by
  rcases h with ⟨rfl, _⟩ | ⟨i, off, c, b, rfl, _⟩ <;> rfl
theorem near1 {H : List Blk} {bb bp p : Nat} {v : V} {l : List (Nat → Int)} {x y : Int} {t1 t2 : TypeId} {k1 k2 : BK} (h : Rd H v (rowL .u16 12) l) (h12 : ∀ f ∈ l, F12 f) (hb : H[bb]? = some ⟨[v], t1, k1⟩) (l1 : k1.live = true) (hp : H[bp]? = some ⟨[.v (.int .i64 p)], t2, k2⟩) (l2 : k2.live = true)
    (hpl : p < l.length) (hx0 : 0 ≤ x ∧ x < l.length) (hy0 : 0 ≤ y ∧ y < l.length) :
    Cal Try.prog 100 ([.v (.int .i64 x), .v (.int .i64 y)] ++ [.p bb 0, .p bp 0]) H fun u H' => u = .v (.int .i64 (cmpI (jmp l p x.toNat) (jmp l p y.toNat))) ∧ H' = H := by
  have hsol := h.solid
  have b1 := (List.getElem?_eq_some_iff.1 hb).1
  have b2 := (List.getElem?_eq_some_iff.1 hp).1
  obtain ⟨i, off, c, b, rfl, hat⟩ := h.row (by omega)
  have a0 := hat.elem (rowL .u16 12) 12 hz12 (show p < l.length by omega)
  have a1 := hat.elem (rowL .u16 12) 12 hz12 (show x.toNat < l.length by omega)
  have a2 := hat.elem (rowL .u16 12) 12 hz12 (show y.toNat < l.length by omega)
  have f0 := hat.fits (rowL .u16 12) 12 hz12 (show p < l.length by omega) (by omega)
  have f1 := hat.fits (rowL .u16 12) 12 hz12 (show x.toNat < l.length by omega) (by omega)
  have f2 := hat.fits (rowL .u16 12) 12 hz12 (show y.toNat < l.length by omega) (by omega)
  rw [← pg_at] at a0 a1 a2
  have tp : ((p : Nat) : Int).toNat = p := by omega
  simp only [List.cons_append, List.nil_append]
  refine cal_fn 22 mixed Try.func100 Try.ntmps100 Try.results100 rfl rfl rfl fun hw cx hx hq => ?_
  repeat (first | (simp only [go_sem, Int.reduceLT, Int.reduceLE, Int.reduceEq, Int.reduceToNat, hb, l1, hp, l2, b1, b2, hat.get, hat.live, a0, a1, a2, hsol, tp]) | ((with_reducible refine And.intro ?_ ?_); omega) | ((with_reducible refine isSK ?_); first | (refine call_ret (jump (pg_12 h12 _) (pg_12 h12 _)) (by simp only [go_sem, Int.reduceLT, Int.reduceLE, Int.reduceEq, Int.reduceToNat, hb, l1, hp, l2, b1, b2, hat.get, hat.live, a0, a1, a2, hsol, tp]) ?_) | (refine call_ret (compare64) (by simp only [go_sem, Int.reduceLT, Int.reduceLE, Int.reduceEq, Int.reduceToNat, hb, l1, hp, l2, b1, b2, hat.get, hat.live, a0, a1, a2, hsol, tp]) ?_)) | ((with_reducible refine isMC ?_); first | (refine mcall_ret (jump (pg_12 h12 _) (pg_12 h12 _)) (by simp only [go_sem, Int.reduceLT, Int.reduceLE, Int.reduceEq, Int.reduceToNat, hb, l1, hp, l2, b1, b2, hat.get, hat.live, a0, a1, a2, hsol, tp]) (by simp only [go_sem, Int.reduceLT, Int.reduceLE, Int.reduceEq, Int.reduceToNat, hb, l1, hp, l2, b1, b2, hat.get, hat.live, a0, a1, a2, hsol, tp]) ?_) | (refine mcall_ret (compare64) (by simp only [go_sem, Int.reduceLT, Int.reduceLE, Int.reduceEq, Int.reduceToNat, hb, l1, hp, l2, b1, b2, hat.get, hat.live, a0, a1, a2, hsol, tp]) (by simp only [go_sem, Int.reduceLT, Int.reduceLE, Int.reduceEq, Int.reduceToNat, hb, l1, hp, l2, b1, b2, hat.get, hat.live, a0, a1, a2, hsol, tp]) ?_)) | ((with_reducible refine isWKr (id := 1) ?_); refine WK_drawUp 1 [[],[],[0,1],[0,1,2],[],[],[4,5],[4,5,6],[0,1,2,3,4,5,6,7],[],[],[9,10],[9,10,11],[],[],[13,14],[13,14,15],[0,1,2,3,4,5,6,7,8,9,10,11,12,13,14,15,16],[0,1,2,3,4,5,6,7,8,9,10,11,12,13,14,15,16,17],[0,1,2,3,4,5,6,7,8,9,10,11,12,13,14,15,16,17,18]] 17 (by kernel_rfl) ?_; dsimp only [List.take, List.drop]) | ((with_reducible refine And.intro ?_ ?_); first | (with_reducible rfl) | assumption | (simp only [go_sem]; done)))
  refine ret_same hq _ (.inl rfl) ?_
  simp [go_sem, jmp]
/-- The pages so far. -/
def outP (p i : Nat) : List Int := (List.range (if i ≤ p then i else i - 1)).map (f0P p)
theorem outP_len (p i : Nat) : (outP p i).length = if i ≤ p then i else i - 1 := by simp [outP]
theorem outP_same (p : Nat) : outP p (p + 1) = outP p p := by unfold outP; rw [if_neg (by omega), if_pos (Nat.le_refl _), Nat.add_sub_cancel]
theorem outP_succ {p i : Nat} (h : i ≠ p) : outP p (i + 1) = outP p i ++ [(i : Int)] := by
  unfold outP
  by_cases h1 : i < p
  · rw [if_pos (by omega), if_pos (by omega), List.range_succ, List.map_append]
    simp [f0P, h1]
  · rw [if_neg (by omega), if_neg (by omega), show i + 1 - 1 = (i - 1) + 1 by omega, List.range_succ, List.map_append]
    simp [f0P]
    rw [if_neg (by omega)]; omega
theorem outP_all {p n : Nat} (h : p < n) : outP p n = nearL (f0P p) (n - 1) := by unfold outP nearL; rw [if_neg (by omega)]
def nrC (l : List (Nat → Int)) (p c : Int) : Int := if pageC l p = 0 then (if 0 ≤ c ∧ c ≤ (l.length : Int) - 1 then 0 else 2) else pageC l p
theorem implNear_err {H : List Blk} {v : V} {l : List (Nat → Int)} {p c : Int} (h : Rd H v (rowL .u16 12) l) (hl : l.length ≤ 1000000) (hc : nrC l p c ≠ 0) :
    Cal Try.prog 45 [v, .v (.int .i64 p), .v (.int .i64 c)] H fun u H' => u = .t [.v (.slice none 0 0), .v (.int .i64 (nrC l p c))] ∧ H' = H := by
  have hsol := h.solid
  have hL := h.lenV (P := Try.prog) slTy27
  have hce := rd_cells h
  unfold nrC at hc ⊢
  by_cases h0 : pageC l p = 0
  · rw [if_pos h0] at hc ⊢
    have hr : ¬ (0 ≤ c ∧ c ≤ (l.length : Int) - 1) := fun h => hc (if_pos h)
    rw [if_neg hr]
    have hr2 : (decide (0 ≤ c) && decide (c ≤ (l.length : Int) - 1)) = false := by rw [Bool.and_eq_false_iff, decide_eq_false_iff_not, decide_eq_false_iff_not]; omega
    refine cal_fn 41 mixed Try.func45 Try.ntmps45 Try.results45 rfl rfl rfl fun hw cx hx hq => ?_
    repeat (first | (simp only [go_sem, Int.reduceLT, Int.reduceLE, Int.reduceEq, Int.reduceToNat, hsol, hce, h0, hL, hr2]) | ((with_reducible refine And.intro ?_ ?_); omega) | ((with_reducible refine isSK ?_); first | (refine call_ret (checkPage h.app (by omega)) (by simp only [go_sem, Int.reduceLT, Int.reduceLE, Int.reduceEq, Int.reduceToNat, hsol, hce, h0, hL, hr2]) ?_) | (refine call_ret (inRange) (by simp only [go_sem, Int.reduceLT, Int.reduceLE, Int.reduceEq, Int.reduceToNat, hsol, hce, h0, hL, hr2]) ?_)) | ((with_reducible refine isMC ?_); first | (refine mcall_ret (checkPage h.app (by omega)) (by simp only [go_sem, Int.reduceLT, Int.reduceLE, Int.reduceEq, Int.reduceToNat, hsol, hce, h0, hL, hr2]) (by simp only [go_sem, Int.reduceLT, Int.reduceLE, Int.reduceEq, Int.reduceToNat, hsol, hce, h0, hL, hr2]) ?_) | (refine mcall_ret (inRange) (by simp only [go_sem, Int.reduceLT, Int.reduceLE, Int.reduceEq, Int.reduceToNat, hsol, hce, h0, hL, hr2]) (by simp only [go_sem, Int.reduceLT, Int.reduceLE, Int.reduceEq, Int.reduceToNat, hsol, hce, h0, hL, hr2]) ?_)) | ((with_reducible refine And.intro ?_ ?_); first | (with_reducible rfl) | assumption | (simp only [go_sem]; done)))
    refine ret_cut hq hw _ (.inl rfl) ?_
    simp [go_sem]
  · rw [if_neg h0]
    refine cal_fn 41 mixed Try.func45 Try.ntmps45 Try.results45 rfl rfl rfl fun hw cx hx hq => ?_
    repeat (first | (simp only [go_sem, Int.reduceLT, Int.reduceLE, Int.reduceEq, Int.reduceToNat, hsol, hce, h0]) | ((with_reducible refine And.intro ?_ ?_); omega) | ((with_reducible refine isSK ?_); first | (refine call_ret (checkPage h.app (by omega)) (by simp only [go_sem, Int.reduceLT, Int.reduceLE, Int.reduceEq, Int.reduceToNat, hsol, hce, h0]) ?_)) | ((with_reducible refine isMC ?_); first | (refine mcall_ret (checkPage h.app (by omega)) (by simp only [go_sem, Int.reduceLT, Int.reduceLE, Int.reduceEq, Int.reduceToNat, hsol, hce, h0]) (by simp only [go_sem, Int.reduceLT, Int.reduceLE, Int.reduceEq, Int.reduceToNat, hsol, hce, h0]) ?_)) | ((with_reducible refine And.intro ?_ ?_); first | (with_reducible rfl) | assumption | (simp only [go_sem]; done)))
    refine ret_cut hq hw _ (.inl rfl) ?_
    simp [go_sem]
theorem nrC_ok {l : List (Nat → Int)} {p c : Int} (h : nrC l p c = 0) : pageC l p = 0 ∧ 0 ≤ c ∧ c ≤ (l.length : Int) - 1 := by
  unfold nrC at h
  split at h
  · split at h
    · exact ⟨‹_›, ‹_›⟩
    · cases h
  · contradiction
theorem implNear_ok {H : List Blk} {v : V} {l : List (Nat → Int)} {p c : Nat} {g : Nat → Int} (h : Rd H v (rowL .u16 12) l) (hR : ∀ f ∈ l, R16 f) (hc0 : nrC l p c = 0) (hg : EnumP (fun x => jmp l p x.toNat) l.length p g) :
    Cal Try.prog 45 [v, .v (.int .i64 p), .v (.int .i64 c)] H fun u H' => u = .t [.s H.length 0 (nearL g c).length (.u 0), .v (.int .i64 0)] ∧ H' = H ++ [⟨(nearL g c).flatMap i64C, 2, .own 1⟩] := by
  have hsol := h.solid
  have hL := h.lenV (P := Try.prog) slTy27
  have hce := rd_cells h
  obtain ⟨hp0, hcr⟩ := nrC_ok hc0
  obtain ⟨hB, hp⟩ := pageC_ok hp0
  have h12 := okB_12 hB hR
  have h40 := (okB_iff.1 hB).1
  have hr2 : (decide (0 ≤ (c : Int)) && decide ((c : Int) ≤ (l.length : Int) - 1)) = true := by rw [decide_eq_true hcr.1, decide_eq_true hcr.2]; rfl
  refine cal_fn 41 mixed Try.func45 Try.ntmps45 Try.results45 rfl rfl rfl fun hw cx hx hq => ?_
  have hn1 : norefH (H.length + 2) H := norefH_wf hw (by omega)
  have hv1 : v.noref (H.length + 2) = true := h.noref (by omega)
  have hf1 : forget (H.length + 2) v = v := h.forget (by omega)
  have hd1 : (H.length = H.length + 2) = False := eq_false (by omega)
  have hd2 : (H.length + 1 = H.length + 2) = False := eq_false (by omega)
  repeat (first | (simp only [go_sem, Int.reduceLT, Int.reduceLE, Int.reduceEq, Int.reduceToNat, hsol, hce, hp0, hL, hr2]) | ((with_reducible refine And.intro ?_ ?_); omega) | ((with_reducible refine isSK ?_); first | (refine call_ret (checkPage h.app (by omega)) (by simp only [go_sem, Int.reduceLT, Int.reduceLE, Int.reduceEq, Int.reduceToNat, hsol, hce, hp0, hL, hr2]) ?_) | (refine call_ret (inRange) (by simp only [go_sem, Int.reduceLT, Int.reduceLE, Int.reduceEq, Int.reduceToNat, hsol, hce, hp0, hL, hr2]) ?_)) | ((with_reducible refine isMC ?_); first | (refine mcall_ret (checkPage h.app (by omega)) (by simp only [go_sem, Int.reduceLT, Int.reduceLE, Int.reduceEq, Int.reduceToNat, hsol, hce, hp0, hL, hr2]) (by simp only [go_sem, Int.reduceLT, Int.reduceLE, Int.reduceEq, Int.reduceToNat, hsol, hce, hp0, hL, hr2]) ?_) | (refine mcall_ret (inRange) (by simp only [go_sem, Int.reduceLT, Int.reduceLE, Int.reduceEq, Int.reduceToNat, hsol, hce, hp0, hL, hr2]) (by simp only [go_sem, Int.reduceLT, Int.reduceLE, Int.reduceEq, Int.reduceToNat, hsol, hce, hp0, hL, hr2]) ?_)) | ((with_reducible refine And.intro ?_ ?_); first | (with_reducible rfl) | assumption | (simp only [go_sem]; done)))
  refine WK_for (fun i : Nat => ⟨[v, .v (.int .i64 p), .v (.int .i64 c), .p H.length 0, .p (H.length + 1) 0, .any, .any, .any, .any, .s (H.length + 2) 0 (outP p i).length (.u 0), .any, .any, .any, .any, .any, .any, .any, .any, .any, .any, .any, .any, .any, .any, .any, .v (.int .i64 l.length), .v (.int .i64 i)] ++ junk 17, H ++ [⟨[v], 27, .fix⟩, ⟨[.v (.int .i64 p)], 2, .fix⟩, ⟨(outP p i).flatMap i64C, 2, .own 1⟩]⟩) (fun i => i ≤ l.length) (fun i => l.length - i) 0 (Weak.slots ?_) (Nat.zero_le _) fun i hi => ?_
  · simp [go_sem, outP]
  have hlen := outP_len p i
  have hl2 : ((outP p i).flatMap i64C).length = (outP p i).length := by rw [flat_i64.flen, Nat.mul_one]
  have hn2 : norefs (H.length + 2) ((outP p i).flatMap i64C) = true := flat_i64.norefs _ _
  have hle : (outP p i).length ≤ 40 := by rw [hlen]; split <;> omega
  rcases Int.lt_or_le (i : Int) l.length with hc | hc
  · by_cases e : i = p
    · subst e
      have e1 : ((i : Int) = (i : Int)) = True := eq_true rfl
      repeat (first | (simp only [go_sem, Int.reduceLT, Int.reduceLE, Int.reduceEq, Int.reduceToNat, hc, e1, hsol]) | ((with_reducible refine And.intro ?_ ?_); omega) | ((with_reducible refine And.intro ?_ ?_); first | (with_reducible rfl) | assumption | (simp only [go_sem]; done)))
      refine EK_again (i + 1) ?_ (by omega) (by omega)
      rw [outP_same]
      exact Weak.slots (by simp [go_sem])
    · have e1 : ((i : Int) = (p : Int)) = False := eq_false (by omega)
      have hsu := outP_succ e
      repeat (first | (simp only [go_sem, Int.reduceLT, Int.reduceLE, Int.reduceEq, Int.reduceToNat, hc, e1, hsol, hn1, hn2, hv1, hf1, hd1, hd2, hl2, hx]) | ((with_reducible refine And.intro ?_ ?_); omega) | ((with_reducible refine And.intro ?_ ?_); first | (with_reducible rfl) | assumption | (simp only [go_sem]; done)))
      refine EK_again (i + 1) ?_ (by omega) (by omega)
      rw [hsu]
      simp only [List.flatMap_append, List.flatMap_singleton, List.length_append, List.length_singleton]
      have hvl : ∀ n, H.length ≤ n → V.lt n v = True := fun n hn => h.vlt hn
      exact Weak.keepN rfl (by simp [go_sem] <;> omega) (by simp [hx]) (by simp [go_sem, flat_i64.lts, i64C, hvl] <;> omega) (hw.app (by simp [go_sem, flat_i64.lts, i64C, hvl] <;> omega))
  · obtain rfl : i = l.length := by omega
    repeat (first | (simp only [go_sem, Int.reduceLT, Int.reduceLE, Int.reduceEq, Int.reduceToNat, Int.not_lt.2 hc, hsol]) | ((with_reducible refine And.intro ?_ ?_); omega) | ((with_reducible refine And.intro ?_ ?_); first | (with_reducible rfl) | assumption | (simp only [go_sem]; done)))
    have hpn : p < l.length := by omega
    rw [outP_all hpn, nearL_row, nearL_len]
    have hset : ∀ X Y : Blk, (H ++ [⟨[v], 27, .fix⟩, ⟨[.v (.int .i64 p)], 2, .fix⟩, X]).set (H.length + 2) Y = H ++ [⟨[v], 27, .fix⟩, ⟨[.v (.int .i64 p)], 2, .fix⟩, Y] := fun X Y => by
      rw [List.set_append_right _ _ (by omega)]
      simp
    have hst := sortStable (H := H ++ [⟨[v], 27, .fix⟩, ⟨[.v (.int .i64 p)], 2, .fix⟩, ⟨rowL .i64 (l.length - 1) (f0P p), 2, .own 1⟩]) (bi := H.length + 2) (N := l.length - 1) (ty := 2) (kd := .own 1) (c := .u 0) (fn := 100) (cs := [.p H.length 0, .p (H.length + 1) 0]) (kf := fun x => jmp l p x.toNat) (D := fun x => 0 ≤ x ∧ x < l.length) (by simp) rfl (by omega) rfl
      (fun g x y hx hy => by rw [hset]; exact near1 h.app h12 (by first | exact (Go.Sx.get_at0 _ _).trans rfl | exact (Go.Sx.get_at _ _ 1).trans rfl | exact (Go.Sx.get_at _ _ 2).trans rfl | exact (Go.Sx.get_at _ _ 3).trans rfl | exact (Go.Sx.get_at _ _ 4).trans rfl | exact (Go.Sx.get_at _ _ 5).trans rfl | exact (Go.Sx.get_at _ _ 6).trans rfl | exact (Go.Sx.get_at _ _ 7).trans rfl | exact (Go.Sx.get_at _ _ 8).trans rfl | exact (Go.Sx.get_at _ _ 9).trans rfl | exact (Go.Sx.get_at _ _ 10).trans rfl | exact (Go.Sx.get_at _ _ 11).trans rfl | exact (Go.Sx.get_at _ _ 12).trans rfl | exact (Go.Sx.get_at _ _ 13).trans rfl | exact (Go.Sx.get_at _ _ 14).trans rfl | exact (Go.Sx.get_at _ _ 15).trans rfl) rfl (by first | exact (Go.Sx.get_at0 _ _).trans rfl | exact (Go.Sx.get_at _ _ 1).trans rfl | exact (Go.Sx.get_at _ _ 2).trans rfl | exact (Go.Sx.get_at _ _ 3).trans rfl | exact (Go.Sx.get_at _ _ 4).trans rfl | exact (Go.Sx.get_at _ _ 5).trans rfl | exact (Go.Sx.get_at _ _ 6).trans rfl | exact (Go.Sx.get_at _ _ 7).trans rfl | exact (Go.Sx.get_at _ _ 8).trans rfl | exact (Go.Sx.get_at _ _ 9).trans rfl | exact (Go.Sx.get_at _ _ 10).trans rfl | exact (Go.Sx.get_at _ _ 11).trans rfl | exact (Go.Sx.get_at _ _ 12).trans rfl | exact (Go.Sx.get_at _ _ 13).trans rfl | exact (Go.Sx.get_at _ _ 14).trans rfl | exact (Go.Sx.get_at _ _ 15).trans rfl) rfl hpn hx hy) (f := f0P p) (fun x hx => (f0P_val (by omega)).1) (by omega) (fun x y hxy _ => f0P_inc hxy)
    simp only [hset] at hst
    refine call_ex hst (by simp only [go_sem]) ?_
    rintro _ _ ⟨g2, mx, sr, rfl, rfl⟩
    have hu := (enum_of hpn mx sr).uniq hg
    have hrow : rowL .i64 (l.length - 1) g2 = rowL .i64 (l.length - 1) g := rowL_ext _ _ _ _ fun x hx => hu x (by omega)
    rw [hrow]
    have hcn : c ≤ l.length - 1 := by omega
    obtain ⟨r, hr⟩ : ∃ r, nearL g (l.length - 1) = nearL g c ++ r := by
      refine ⟨(nearL g (l.length - 1)).drop c, ?_⟩
      have e : nearL g c = (nearL g (l.length - 1)).take c := by unfold nearL; rw [← List.map_take, List.take_range, Nat.min_eq_left hcn]
      rw [e, List.take_append_drop]
    have hat := At.mk' (H := H) (L := [⟨[v], 27, .fix⟩, ⟨[.v (.int .i64 p)], 2, .fix⟩, ⟨rowL .i64 (l.length - 1) g, 2, .own 1⟩]) 2 rfl rfl
    rw [← nearL_row, hr, List.flatMap_append] at hat
    have hat2 := hat.left
    rw [← List.flatMap_append, ← hr, nearL_row] at hat2
    have hfl : ((nearL g c).flatMap i64C).length = c := by rw [flat_i64.flen, Nat.mul_one, nearL_len]
    have e3 : ((c : Int) ≤ ((l.length - 1 : Nat) : Int)) = True := eq_true (by omega)
    have hcl := fun cap => cloneI (l := nearL g c) (c := cap) hat2 (by rw [hfl]; simp [rowL_length]; omega) (by rw [nearL_len]; omega)
    simp only [nearL_len] at hcl
    repeat (first | (simp only [go_sem, Int.reduceLT, Int.reduceLE, Int.reduceEq, Int.reduceToNat, e3, rowL_length]) | ((with_reducible refine And.intro ?_ ?_); omega) | ((with_reducible refine isSK ?_); first | (refine call_ret (hcl _) (by simp only [go_sem, Int.reduceLT, Int.reduceLE, Int.reduceEq, Int.reduceToNat, e3, rowL_length]) ?_)) | ((with_reducible refine isMC ?_); first | (refine mcall_ret (hcl _) (by simp only [go_sem, Int.reduceLT, Int.reduceLE, Int.reduceEq, Int.reduceToNat, e3, rowL_length]) (by simp only [go_sem, Int.reduceLT, Int.reduceLE, Int.reduceEq, Int.reduceToNat, e3, rowL_length]) ?_)) | ((with_reducible refine And.intro ?_ ?_); first | (with_reducible rfl) | assumption | (simp only [go_sem]; done)))
    refine ret_one hq hw _ (.inl rfl) 3 rfl (by rw [flat_i64.lts]; trivial) (.t [.s H.length 0 (nearL g c).length (.u 0), .v (.int .i64 0)]) (by simp [go_sem]) ?_
    simp [go_sem, conc, concs, upσ, Cap.val, nearL_len]
end Go.Proofs.Ytjkkallcgplgmaa

