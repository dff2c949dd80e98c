/- Contracts of functions of the translated program, by the walk. -/
import Derived.Test.YtjkkallcgplgmaaE3
set_option linter.unusedVariables false
set_option linter.unusedSimpArgs false
set_option maxRecDepth 8000
set_option maxHeartbeats 4000000
namespace Go.Proofs.Ytjkkallcgplgmaa
open Go Go.Sx
theorem hz2 : ∀ x : Nat → Int, (rowL .i64 2 x).length = 2 := fun _ => rowL_length ..
/-- A turn is one of a book of n pages. -/
def validT (n : Nat) (f : Nat → Int) : Bool := decide (0 ≤ f 0) && (decide (f 0 ≤ f 1) && decide (f 1 ≤ (n : Int) - 1))
theorem validT_iff {n : Nat} {f : Nat → Int} : validT n f = true ↔ 0 ≤ f 0 ∧ f 0 ≤ f 1 ∧ f 1 < n := by
  unfold validT; simp; omega
def tpC (l Q : List (Nat → Int)) : Int := if okB l = true then (if Q.length ≤ 200 then (if Q.all (validT l.length) = true then 0 else 2) else 3) else 1
/-- What the turns make of a list. -/
def tpL {α : Type} (L : List α) (Q : List (Nat → Int)) : List α := Q.foldl (fun L f => turnL L (f 0).toNat (f 1).toNat) L
theorem tpL_take {α : Type} (L : List α) {Q : List (Nat → Int)} {t : Nat} (ht : t < Q.length) : tpL L (Q.take (t + 1)) = turnL (tpL L (Q.take t)) (Q[t] 0).toNat (Q[t] 1).toNat := by
  unfold tpL; rw [List.take_succ_eq_append_getElem ht, List.foldl_append]; rfl
theorem tpL_len {α : Type} (L : List α) : ∀ (Q : List (Nat → Int)), (∀ f ∈ Q, validT L.length f = true) → (tpL L Q).length = L.length
  | [], _ => rfl
  | f :: Q, h => by
    have h1 := validT_iff.1 (h f (List.mem_cons_self ..))
    have hl : (turnL L (f 0).toNat (f 1).toNat).length = L.length := turnL_len (by omega) (by omega)
    show (tpL (turnL L (f 0).toNat (f 1).toNat) Q).length = L.length
    rw [tpL_len _ Q fun g hg => by rw [hl]; exact h g (List.mem_cons_of_mem _ hg), hl]
theorem tpL_map {α β : Type} (g : α → β) : ∀ (Q : List (Nat → Int)) (L : List α), tpL (L.map g) Q = (tpL L Q).map g
  | [], _ => rfl
  | f :: Q, L => by
    show tpL (turnL (L.map g) (f 0).toNat (f 1).toNat) Q = (tpL (turnL L (f 0).toNat (f 1).toNat) Q).map g
    rw [turnL_map, tpL_map g Q]
theorem tpL_mem {α : Type} {x : α} : ∀ (Q : List (Nat → Int)) {L : List α}, x ∈ tpL L Q → x ∈ L
  | [], _, h => h
  | f :: Q, L, h => turnL_mem (tpL_mem Q (L := turnL L (f 0).toNat (f 1).toNat) h)
theorem inO_plain (l : List (Nat → Int)) : inO l (plainL l.length) = l := by
  apply List.ext_getElem?
  intro j
  unfold inO plainL
  rw [List.getElem?_map, List.getElem?_map]
  by_cases hj : j < l.length
  · rw [List.getElem?_range hj, List.getElem?_eq_getElem hj]
    simp only [Option.map_some, Int.toNat_natCast]
    rw [pg_at hj]
  · rw [List.getElem?_eq_none (by simp; omega), List.getElem?_eq_none (by omega)]; rfl
theorem inO_tpL (l : List (Nat → Int)) (Q : List (Nat → Int)) : inO l (tpL (plainL l.length) Q) = tpL l Q := by
  have h := tpL_map (fun k : Int => pg l k.toNat) Q (plainL l.length)
  have e : (plainL l.length).map (fun k : Int => pg l k.toNat) = l := inO_plain l
  rw [e] at h
  exact h.symm
theorem plain_ok (l : List (Nat → Int)) (Q : List (Nat → Int)) : okI l (tpL (plainL l.length) Q) := fun k hk => by
  have := tpL_mem Q hk
  unfold plainL at this
  obtain ⟨j, hj, rfl⟩ := List.mem_map.1 this
  have := List.mem_range.1 hj
  omega


theorem implTurnPages_early {H : List Blk} {v w : V} {l Q : List (Nat → Int)} (h : Rd H v (rowL .u16 12) l) (hw2 : Rd H w (rowL .i64 2) Q) (hl : l.length ≤ 1000000) (hT1 : Q.length ≤ 1000000) (hc : okB l = false ∨ 200 < Q.length) :
    Cal Try.prog 23 [v, w] H fun u H' => u = .t [.v (.slice none 0 0), .v (.int .i64 (tpC l Q))] ∧ H' = H := by
  have hsol := h.solid
  have hT := hw2.lenV (P := Try.prog) slTy31
  refine cal_fn 52 mixed Try.func23 Try.ntmps23 Try.results23 rfl rfl rfl fun hw cx hx hq => ?_
  by_cases e : okB l = true
  · have e2 : ((200 : Int) < (Q.length : Int)) = True := by apply eq_true; rcases hc with hc | hc; · rw [hc] at e; cases e
                                                            omega
    have hC : tpC l Q = 3 := by unfold tpC; rw [if_pos e, if_neg (by simp at e2; omega)]
    repeat (first | (simp only [go_sem, Int.reduceLT, Int.reduceLE, Int.reduceEq, Int.reduceToNat, hsol, e, hT, e2]) | ((with_reducible refine And.intro ?_ ?_); omega) | ((with_reducible refine isSK ?_); first | (refine call_ret (validBook h (by omega)) (by simp only [go_sem, Int.reduceLT, Int.reduceLE, Int.reduceEq, Int.reduceToNat, hsol, e, hT, e2]) ?_)) | ((with_reducible refine isMC ?_); first | (refine mcall_ret (validBook h (by omega)) (by simp only [go_sem, Int.reduceLT, Int.reduceLE, Int.reduceEq, Int.reduceToNat, hsol, e, hT, e2]) (by simp only [go_sem, Int.reduceLT, Int.reduceLE, Int.reduceEq, Int.reduceToNat, hsol, e, hT, e2]) ?_)) | ((with_reducible refine And.intro ?_ ?_); first | (with_reducible rfl) | assumption | (simp only [go_sem]; done)))
    refine ret_same hq _ (.inl rfl) ?_
    simp [go_sem, hC]
  · have hC : tpC l Q = 1 := by unfold tpC; rw [if_neg e]
    rw [Bool.not_eq_true] at e
    repeat (first | (simp only [go_sem, Int.reduceLT, Int.reduceLE, Int.reduceEq, Int.reduceToNat, hsol, e]) | ((with_reducible refine And.intro ?_ ?_); omega) | ((with_reducible refine isSK ?_); first | (refine call_ret (validBook h (by omega)) (by simp only [go_sem, Int.reduceLT, Int.reduceLE, Int.reduceEq, Int.reduceToNat, hsol, e]) ?_)) | ((with_reducible refine isMC ?_); first | (refine mcall_ret (validBook h (by omega)) (by simp only [go_sem, Int.reduceLT, Int.reduceLE, Int.reduceEq, Int.reduceToNat, hsol, e]) (by simp only [go_sem, Int.reduceLT, Int.reduceLE, Int.reduceEq, Int.reduceToNat, hsol, e]) ?_)) | ((with_reducible refine And.intro ?_ ?_); first | (with_reducible rfl) | assumption | (simp only [go_sem]; done)))
    refine ret_same hq _ (.inl rfl) ?_
    simp [go_sem, hC]
theorem implTurnPages_nil {H : List Blk} {w : V} {Q : List (Nat → Int)} (hw2 : Rd H w (rowL .i64 2) Q) (hT1 : Q.length ≤ 200) :
    Cal Try.prog 23 [.v (.slice none 0 0), w] H fun u H' => u = .t [.v (.slice none 0 0), .v (.int .i64 (tpC [] Q))] ∧ H' = H := by
  have hT := hw2.lenV (P := Try.prog) slTy31
  have hsol2 := hw2.solid
  have h : ∀ L, Rd (H ++ L) (.v (.slice none 0 0)) (rowL .u16 12) ([] : List (Nat → Int)) := fun L => Rd.nil _ _
  have h0 : Rd H (.v (.slice none 0 0)) (rowL .u16 12) ([] : List (Nat → Int)) := Rd.nil _ _
  have e : okB [] = true := rfl
  have e2 : ((200 : Int) < (Q.length : Int)) = False := eq_false (by omega)
  refine cal_fn 52 mixed Try.func23 Try.ntmps23 Try.results23 rfl rfl rfl fun hw cx hx hq => ?_
  repeat (first | (simp only [go_sem, Int.reduceLT, Int.reduceLE, Int.reduceEq, Int.reduceToNat, e, hT, e2, hsol2]) | ((with_reducible refine And.intro ?_ ?_); omega) | ((with_reducible refine isSK ?_); first | (refine call_ret (validBook h0 (by simp)) (by simp only [go_sem, Int.reduceLT, Int.reduceLE, Int.reduceEq, Int.reduceToNat, e, hT, e2, hsol2]) ?_) | (refine call_ret (cloneBookNil) (by simp only [go_sem, Int.reduceLT, Int.reduceLE, Int.reduceEq, Int.reduceToNat, e, hT, e2, hsol2]) ?_)) | ((with_reducible refine isMC ?_); first | (refine mcall_ret (validBook h0 (by simp)) (by simp only [go_sem, Int.reduceLT, Int.reduceLE, Int.reduceEq, Int.reduceToNat, e, hT, e2, hsol2]) (by simp only [go_sem, Int.reduceLT, Int.reduceLE, Int.reduceEq, Int.reduceToNat, e, hT, e2, hsol2]) ?_) | (refine mcall_ret (cloneBookNil) (by simp only [go_sem, Int.reduceLT, Int.reduceLE, Int.reduceEq, Int.reduceToNat, e, hT, e2, hsol2]) (by simp only [go_sem, Int.reduceLT, Int.reduceLE, Int.reduceEq, Int.reduceToNat, e, hT, e2, hsol2]) ?_)) | ((with_reducible refine And.intro ?_ ?_); first | (with_reducible rfl) | assumption | (simp only [go_sem]; done)))
  refine WK_for (fun t : Nat => ⟨[.v (.slice none 0 0), w, .any, .any, .any, .any, .v (.slice none 0 0), .any, .any, .any, .any, .any, .any, .any, .any, .any, .any, .any, .any, w, .v (.int .i64 Q.length), .v (.int .i64 t)] ++ junk 32, H⟩) (fun t => t = 0) (fun t => Q.length - t) 0 (Weak.slots ?_) ?_ fun t ht => ?_
  · simp [go_sem]
  · simp
  rcases Int.lt_or_le (t : Int) Q.length with hc | hc
  · have hj : t < Q.length := by omega
    obtain ⟨i2, off2, c2, b2, rfl, hat2, hfit2⟩ := hw2.full (by omega)
    have hlt2 := hat2.lt
    have a0 := hat2.elem (rowL .i64 2) 2 hz2 hj
    have hfit := hat2.fits (rowL .i64 2) 2 hz2 hj (by omega)
    have c0 : cel (rowL .i64 2 Q[t]) 0 = .v (.int .i64 (Q[t] 0)) := rfl
    have hC : tpC [] Q = 2 := by
      unfold tpC; rw [if_pos e, if_pos hT1, if_neg]
      intro h3
      have := validT_iff.1 (List.all_eq_true.1 h3 _ (List.getElem_mem hj))
      simp at this; omega
    have h1 : (decide (0 ≤ Q[t] 0) && decide (Q[t] 0 ≤ ((0 : Nat) : Int) - 1)) = false := by
      rw [Bool.eq_false_iff]; simp; omega
    repeat (first | (simp only [go_sem, Int.reduceLT, Int.reduceLE, Int.reduceEq, Int.reduceToNat, hT, hc, hat2.get, (get_app hat2.get), hat2.live, a0, hfit, hlt2, c0, h1, zeroA]) | ((with_reducible refine And.intro ?_ ?_); omega) | ((with_reducible refine isSK ?_); first | (refine call_ret (isPage (h _) (by simp)) (by simp only [go_sem, Int.reduceLT, Int.reduceLE, Int.reduceEq, Int.reduceToNat, hT, hc, hat2.get, (get_app hat2.get), hat2.live, a0, hfit, hlt2, c0, h1, zeroA]) ?_)) | ((with_reducible refine isMC ?_); first | (refine mcall_ret (isPage (h _) (by simp)) (by simp only [go_sem, Int.reduceLT, Int.reduceLE, Int.reduceEq, Int.reduceToNat, hT, hc, hat2.get, (get_app hat2.get), hat2.live, a0, hfit, hlt2, c0, h1, zeroA]) (by simp only [go_sem, Int.reduceLT, Int.reduceLE, Int.reduceEq, Int.reduceToNat, hT, hc, hat2.get, (get_app hat2.get), hat2.live, a0, hfit, hlt2, c0, h1, zeroA]) ?_)) | ((with_reducible refine And.intro ?_ ?_); first | (with_reducible rfl) | assumption | (simp only [go_sem]; done)))
    refine ret_cut hq hw _ (.inl rfl) ?_
    simp [go_sem, hC]
  · have hTn : Q = [] := by cases Q with | nil => rfl | cons a b => simp at hc; omega
    subst hTn
    have hc3 : ¬ ((t : Int) < ((0 : Nat) : Int)) := Int.not_lt.2 hc
    repeat (first | (simp only [go_sem, Int.reduceLT, Int.reduceLE, Int.reduceEq, Int.reduceToNat, hc3]) | ((with_reducible refine And.intro ?_ ?_); omega) | ((with_reducible refine And.intro ?_ ?_); first | (with_reducible rfl) | assumption | (simp only [go_sem]; done)))
    refine ret_same hq _ (.inl rfl) ?_
    simp [go_sem, tpC, e]


theorem implTurnPages_bad {H : List Blk} {i off : Nat} {c : Cap} {b : Blk} {w : V} {l Q : List (Nat → Int)} (hat : At H i off (l.flatMap (rowL .u16 12)) b) (hf : off + (l.flatMap (rowL .u16 12)).length ≤ b.cells.length) (hw2 : Rd H w (rowL .i64 2) Q) (hl : l.length ≤ 1000000) (e : okB l = true) (hT1 : Q.length ≤ 200) (hv0 : ∃ f ∈ Q, validT l.length f = false) :
    Cal Try.prog 23 [.s i off l.length c, w] H fun u H' => u = .t [.v (.slice none 0 0), .v (.int .i64 (tpC l Q))] ∧ H' = H := by
  have hT := hw2.lenV (P := Try.prog) slTy31
  have hsol2 := hw2.solid
  have h : Rd H (.s i off l.length c) (rowL .u16 12) l := .inr ⟨i, off, c, b, rfl, hat, hf⟩
  have hil := hat.lt
  have e2 : ((200 : Int) < (Q.length : Int)) = False := eq_false (by omega)
  refine cal_fn 52 mixed Try.func23 Try.ntmps23 Try.results23 rfl rfl rfl fun hw cx hx hq => ?_
  repeat (first | (simp only [go_sem, Int.reduceLT, Int.reduceLE, Int.reduceEq, Int.reduceToNat, e, hT, e2, hsol2]) | ((with_reducible refine And.intro ?_ ?_); omega) | ((with_reducible refine isSK ?_); first | (refine call_ret (validBook h (by omega)) (by simp only [go_sem, Int.reduceLT, Int.reduceLE, Int.reduceEq, Int.reduceToNat, e, hT, e2, hsol2]) ?_) | (refine call_ret (cloneBook hat hf hl) (by simp only [go_sem, Int.reduceLT, Int.reduceLE, Int.reduceEq, Int.reduceToNat, e, hT, e2, hsol2]) ?_)) | ((with_reducible refine isMC ?_); first | (refine mcall_ret (validBook h (by omega)) (by simp only [go_sem, Int.reduceLT, Int.reduceLE, Int.reduceEq, Int.reduceToNat, e, hT, e2, hsol2]) (by simp only [go_sem, Int.reduceLT, Int.reduceLE, Int.reduceEq, Int.reduceToNat, e, hT, e2, hsol2]) ?_) | (refine mcall_ret (cloneBook hat hf hl) (by simp only [go_sem, Int.reduceLT, Int.reduceLE, Int.reduceEq, Int.reduceToNat, e, hT, e2, hsol2]) (by simp only [go_sem, Int.reduceLT, Int.reduceLE, Int.reduceEq, Int.reduceToNat, e, hT, e2, hsol2]) ?_)) | ((with_reducible refine And.intro ?_ ?_); first | (with_reducible rfl) | assumption | (simp only [go_sem]; done)))
  refine WK_for (fun t : Nat => ⟨[.s i off l.length c, w, .any, .any, .any, .any, .s H.length 0 l.length (.u 0), .any, .any, .any, .any, .any, .any, .any, .any, .any, .any, .any, .any, w, .v (.int .i64 Q.length), .v (.int .i64 t)] ++ junk 32, H ++ [⟨(tpL l (Q.take t)).flatMap (rowL .u16 12), 64, .own 12⟩]⟩) (fun t => t ≤ Q.length ∧ ∀ j (hj : j < Q.length), j < t → validT l.length Q[j] = true) (fun t => Q.length - t) 0 (Weak.slots ?_) ?_ fun t ht => ?_
  · simp [go_sem]
  · simp
  have hval : ∀ f ∈ Q.take t, validT l.length f = true := fun f hf => by
    obtain ⟨j, hj, rfl⟩ := List.mem_iff_getElem.1 hf
    rw [List.getElem_take]; simp at hj; exact ht.2 j (by omega) (by omega)
  have htl := tpL_len l (Q.take t) hval
  rcases Int.lt_or_le (t : Int) Q.length with hc | hc
  · have hj : t < Q.length := by omega
    obtain ⟨i2, off2, c2, b2, rfl, hat2, hfit2⟩ := hw2.full (by omega)
    have hlt2 := hat2.lt
    have a0 := hat2.elem (rowL .i64 2) 2 hz2 hj
    have hfit := hat2.fits (rowL .i64 2) 2 hz2 hj (by omega)
    have c0 : cel (rowL .i64 2 Q[t]) 0 = .v (.int .i64 (Q[t] 0)) := rfl
    have c1 : cel (rowL .i64 2 Q[t]) 1 = .v (.int .i64 (Q[t] 1)) := rfl
    have g2 : ∀ L : List Blk, (H ++ L)[i2]? = some b2 := fun L => get_app hat2.get
    by_cases hv : validT l.length Q[t] = true
    · have hv2 := validT_iff.1 hv
      have hs := tpL_take l hj
      obtain ⟨p, hp⟩ : ∃ p : Nat, Q[t] 0 = p := ⟨(Q[t] 0).toNat, by omega⟩
      obtain ⟨q, hq2⟩ : ∃ q : Nat, Q[t] 1 = q := ⟨(Q[t] 1).toNat, by omega⟩
      rw [hp, hq2] at hs
      rw [hp] at c0
      rw [hq2] at c1
      simp only [Int.toNat_natCast] at hs
      have hpq : p ≤ q := by omega
      have hqn : q < l.length := by omega
      have h1 : (decide (0 ≤ (p : Int)) && decide ((p : Int) ≤ (l.length : Int) - 1)) = true := by simp; omega
      have h2 : (decide (0 ≤ (q : Int)) && decide ((q : Int) ≤ (l.length : Int) - 1)) = true := by simp; omega
      have h3 : ((q : Int) < (p : Int)) = False := eq_false (by omega)
      have h4 : ((p : Int) = (l.length : Int)) = False := eq_false (by omega)
      have t1 : ((q : Int) + 1).toNat = q + 1 := by omega
      have hfl : ((tpL l (Q.take t)).flatMap (rowL .u16 12)).length = l.length * 12 := by rw [flat_len (rowL .u16 12) 12 hz12, htl]
      have hrv := revW_turn (tpL l (Q.take t)) hpq (by omega)
      rw [← hs] at hrv
      repeat (first | (simp only [go_sem, Int.reduceLT, Int.reduceLE, Int.reduceEq, Int.reduceToNat, hT, hc, g2, hat2.live, a0, hfit, hlt2, c0, c1, h1, h2, h3, h4, t1, hfl, hrv, zeroA]) | ((with_reducible refine And.intro ?_ ?_); omega) | ((with_reducible refine isSK ?_); first | (refine call_ret (isPage h.app (by omega)) (by simp only [go_sem, Int.reduceLT, Int.reduceLE, Int.reduceEq, Int.reduceToNat, hT, hc, g2, hat2.live, a0, hfit, hlt2, c0, c1, h1, h2, h3, h4, t1, hfl, hrv, zeroA]) ?_) | (refine call_ret (reverseB (a := p) (n := q + 1 - p) (L := tpL l (Q.take t)) (by first | exact (Go.Sx.get_at0 _ _).trans rfl | exact (Go.Sx.get_at _ _ 1).trans rfl | exact (Go.Sx.get_at _ _ 2).trans rfl | exact (Go.Sx.get_at _ _ 3).trans rfl | exact (Go.Sx.get_at _ _ 4).trans rfl | exact (Go.Sx.get_at _ _ 5).trans rfl | exact (Go.Sx.get_at _ _ 6).trans rfl | exact (Go.Sx.get_at _ _ 7).trans rfl | exact (Go.Sx.get_at _ _ 8).trans rfl | exact (Go.Sx.get_at _ _ 9).trans rfl | exact (Go.Sx.get_at _ _ 10).trans rfl | exact (Go.Sx.get_at _ _ 11).trans rfl | exact (Go.Sx.get_at _ _ 12).trans rfl | exact (Go.Sx.get_at _ _ 13).trans rfl | exact (Go.Sx.get_at _ _ 14).trans rfl | exact (Go.Sx.get_at _ _ 15).trans rfl) (by rfl) (by omega) (by omega)) (by simp only [go_sem, Int.reduceLT, Int.reduceLE, Int.reduceEq, Int.reduceToNat, hT, hc, g2, hat2.live, a0, hfit, hlt2, c0, c1, h1, h2, h3, h4, t1, hfl, hrv, zeroA]) ?_)) | ((with_reducible refine isMC ?_); first | (refine mcall_ret (isPage h.app (by omega)) (by simp only [go_sem, Int.reduceLT, Int.reduceLE, Int.reduceEq, Int.reduceToNat, hT, hc, g2, hat2.live, a0, hfit, hlt2, c0, c1, h1, h2, h3, h4, t1, hfl, hrv, zeroA]) (by simp only [go_sem, Int.reduceLT, Int.reduceLE, Int.reduceEq, Int.reduceToNat, hT, hc, g2, hat2.live, a0, hfit, hlt2, c0, c1, h1, h2, h3, h4, t1, hfl, hrv, zeroA]) ?_) | (refine mcall_ret (reverseB (a := p) (n := q + 1 - p) (L := tpL l (Q.take t)) (by first | exact (Go.Sx.get_at0 _ _).trans rfl | exact (Go.Sx.get_at _ _ 1).trans rfl | exact (Go.Sx.get_at _ _ 2).trans rfl | exact (Go.Sx.get_at _ _ 3).trans rfl | exact (Go.Sx.get_at _ _ 4).trans rfl | exact (Go.Sx.get_at _ _ 5).trans rfl | exact (Go.Sx.get_at _ _ 6).trans rfl | exact (Go.Sx.get_at _ _ 7).trans rfl | exact (Go.Sx.get_at _ _ 8).trans rfl | exact (Go.Sx.get_at _ _ 9).trans rfl | exact (Go.Sx.get_at _ _ 10).trans rfl | exact (Go.Sx.get_at _ _ 11).trans rfl | exact (Go.Sx.get_at _ _ 12).trans rfl | exact (Go.Sx.get_at _ _ 13).trans rfl | exact (Go.Sx.get_at _ _ 14).trans rfl | exact (Go.Sx.get_at _ _ 15).trans rfl) (by rfl) (by omega) (by omega)) (by simp only [go_sem, Int.reduceLT, Int.reduceLE, Int.reduceEq, Int.reduceToNat, hT, hc, g2, hat2.live, a0, hfit, hlt2, c0, c1, h1, h2, h3, h4, t1, hfl, hrv, zeroA]) (by simp only [go_sem, Int.reduceLT, Int.reduceLE, Int.reduceEq, Int.reduceToNat, hT, hc, g2, hat2.live, a0, hfit, hlt2, c0, c1, h1, h2, h3, h4, t1, hfl, hrv, zeroA]) ?_)) | ((with_reducible refine And.intro ?_ ?_); first | (with_reducible rfl) | assumption | (simp only [go_sem]; done)))
      refine EK_again (t + 1) ?_ ⟨by omega, fun j hj2 hj3 => ?_⟩ (by omega)
      · exact Weak.keepN rfl (by simp [go_sem] <;> omega) (by simp [hx]) (by simp [go_sem, hil, hlt2, (flat_rowL .u16 12).lts] <;> omega) (hw.app (by simp [go_sem, hil, hlt2, (flat_rowL .u16 12).lts] <;> omega))
      · by_cases e3 : j = t
        · subst e3; exact hv
        · exact ht.2 j hj2 (by omega)
    · -- a turn that is none
      have hv2 : ¬(0 ≤ Q[t] 0 ∧ Q[t] 0 ≤ Q[t] 1 ∧ Q[t] 1 < l.length) := fun e => hv (validT_iff.2 e)
      have hC : tpC l Q = 2 := by
        unfold tpC; rw [if_pos e, if_pos hT1, if_neg]
        intro h3; exact hv (List.all_eq_true.1 h3 _ (List.getElem_mem hj))
      by_cases h1 : (decide (0 ≤ Q[t] 0) && decide (Q[t] 0 ≤ (l.length : Int) - 1)) = true
      · by_cases h2 : (decide (0 ≤ Q[t] 1) && decide (Q[t] 1 ≤ (l.length : Int) - 1)) = true
        · have h3 : (Q[t] 1 < Q[t] 0) = True := by apply eq_true; simp at h1 h2; omega
          repeat (first | (simp only [go_sem, Int.reduceLT, Int.reduceLE, Int.reduceEq, Int.reduceToNat, hT, hc, g2, hat2.live, a0, hfit, hlt2, c0, c1, h1, h2, h3, zeroA]) | ((with_reducible refine And.intro ?_ ?_); omega) | ((with_reducible refine isSK ?_); first | (refine call_ret (isPage h.app (by omega)) (by simp only [go_sem, Int.reduceLT, Int.reduceLE, Int.reduceEq, Int.reduceToNat, hT, hc, g2, hat2.live, a0, hfit, hlt2, c0, c1, h1, h2, h3, zeroA]) ?_)) | ((with_reducible refine isMC ?_); first | (refine mcall_ret (isPage h.app (by omega)) (by simp only [go_sem, Int.reduceLT, Int.reduceLE, Int.reduceEq, Int.reduceToNat, hT, hc, g2, hat2.live, a0, hfit, hlt2, c0, c1, h1, h2, h3, zeroA]) (by simp only [go_sem, Int.reduceLT, Int.reduceLE, Int.reduceEq, Int.reduceToNat, hT, hc, g2, hat2.live, a0, hfit, hlt2, c0, c1, h1, h2, h3, zeroA]) ?_)) | ((with_reducible refine And.intro ?_ ?_); first | (with_reducible rfl) | assumption | (simp only [go_sem]; done)))
          refine ret_cut hq hw _ (.inl rfl) ?_
          simp [go_sem, hC]
        · rw [Bool.not_eq_true] at h2
          repeat (first | (simp only [go_sem, Int.reduceLT, Int.reduceLE, Int.reduceEq, Int.reduceToNat, hT, hc, g2, hat2.live, a0, hfit, hlt2, c0, c1, h1, h2, zeroA]) | ((with_reducible refine And.intro ?_ ?_); omega) | ((with_reducible refine isSK ?_); first | (refine call_ret (isPage h.app (by omega)) (by simp only [go_sem, Int.reduceLT, Int.reduceLE, Int.reduceEq, Int.reduceToNat, hT, hc, g2, hat2.live, a0, hfit, hlt2, c0, c1, h1, h2, zeroA]) ?_)) | ((with_reducible refine isMC ?_); first | (refine mcall_ret (isPage h.app (by omega)) (by simp only [go_sem, Int.reduceLT, Int.reduceLE, Int.reduceEq, Int.reduceToNat, hT, hc, g2, hat2.live, a0, hfit, hlt2, c0, c1, h1, h2, zeroA]) (by simp only [go_sem, Int.reduceLT, Int.reduceLE, Int.reduceEq, Int.reduceToNat, hT, hc, g2, hat2.live, a0, hfit, hlt2, c0, c1, h1, h2, zeroA]) ?_)) | ((with_reducible refine And.intro ?_ ?_); first | (with_reducible rfl) | assumption | (simp only [go_sem]; done)))
          refine ret_cut hq hw _ (.inl rfl) ?_
          simp [go_sem, hC]
      · rw [Bool.not_eq_true] at h1
        repeat (first | (simp only [go_sem, Int.reduceLT, Int.reduceLE, Int.reduceEq, Int.reduceToNat, hT, hc, g2, hat2.live, a0, hfit, hlt2, c0, c1, h1, zeroA]) | ((with_reducible refine And.intro ?_ ?_); omega) | ((with_reducible refine isSK ?_); first | (refine call_ret (isPage h.app (by omega)) (by simp only [go_sem, Int.reduceLT, Int.reduceLE, Int.reduceEq, Int.reduceToNat, hT, hc, g2, hat2.live, a0, hfit, hlt2, c0, c1, h1, zeroA]) ?_)) | ((with_reducible refine isMC ?_); first | (refine mcall_ret (isPage h.app (by omega)) (by simp only [go_sem, Int.reduceLT, Int.reduceLE, Int.reduceEq, Int.reduceToNat, hT, hc, g2, hat2.live, a0, hfit, hlt2, c0, c1, h1, zeroA]) (by simp only [go_sem, Int.reduceLT, Int.reduceLE, Int.reduceEq, Int.reduceToNat, hT, hc, g2, hat2.live, a0, hfit, hlt2, c0, c1, h1, zeroA]) ?_)) | ((with_reducible refine And.intro ?_ ?_); first | (with_reducible rfl) | assumption | (simp only [go_sem]; done)))
        refine ret_cut hq hw _ (.inl rfl) ?_
        simp [go_sem, hC]
  · have : t = Q.length := by omega
    subst this
    exfalso
    obtain ⟨f, hf, hfv⟩ := hv0
    obtain ⟨j, hj, rfl⟩ := List.mem_iff_getElem.1 hf
    have := ht.2 j hj hj
    rw [hfv] at this; cases this


theorem implTurnPages_ok {H : List Blk} {i off : Nat} {c : Cap} {b : Blk} {w : V} {l Q : List (Nat → Int)} (hat : At H i off (l.flatMap (rowL .u16 12)) b) (hf : off + (l.flatMap (rowL .u16 12)).length ≤ b.cells.length) (hw2 : Rd H w (rowL .i64 2) Q) (hl : l.length ≤ 1000000) (e : okB l = true) (hT1 : Q.length ≤ 200) (hv0 : ∀ f ∈ Q, validT l.length f = true) :
    Cal Try.prog 23 [.s i off l.length c, w] H fun u H' => u = .t [.s H.length 0 l.length (.u 0), .v (.int .i64 0)] ∧ H' = H ++ [⟨(tpL l Q).flatMap (rowL .u16 12), 64, .own 12⟩] := by
  have hT := hw2.lenV (P := Try.prog) slTy31
  have hsol2 := hw2.solid
  have h : Rd H (.s i off l.length c) (rowL .u16 12) l := .inr ⟨i, off, c, b, rfl, hat, hf⟩
  have hil := hat.lt
  have e2 : ((200 : Int) < (Q.length : Int)) = False := eq_false (by omega)
  refine cal_fn 52 mixed Try.func23 Try.ntmps23 Try.results23 rfl rfl rfl fun hw cx hx hq => ?_
  repeat (first | (simp only [go_sem, Int.reduceLT, Int.reduceLE, Int.reduceEq, Int.reduceToNat, e, hT, e2, hsol2]) | ((with_reducible refine And.intro ?_ ?_); omega) | ((with_reducible refine isSK ?_); first | (refine call_ret (validBook h (by omega)) (by simp only [go_sem, Int.reduceLT, Int.reduceLE, Int.reduceEq, Int.reduceToNat, e, hT, e2, hsol2]) ?_) | (refine call_ret (cloneBook hat hf hl) (by simp only [go_sem, Int.reduceLT, Int.reduceLE, Int.reduceEq, Int.reduceToNat, e, hT, e2, hsol2]) ?_)) | ((with_reducible refine isMC ?_); first | (refine mcall_ret (validBook h (by omega)) (by simp only [go_sem, Int.reduceLT, Int.reduceLE, Int.reduceEq, Int.reduceToNat, e, hT, e2, hsol2]) (by simp only [go_sem, Int.reduceLT, Int.reduceLE, Int.reduceEq, Int.reduceToNat, e, hT, e2, hsol2]) ?_) | (refine mcall_ret (cloneBook hat hf hl) (by simp only [go_sem, Int.reduceLT, Int.reduceLE, Int.reduceEq, Int.reduceToNat, e, hT, e2, hsol2]) (by simp only [go_sem, Int.reduceLT, Int.reduceLE, Int.reduceEq, Int.reduceToNat, e, hT, e2, hsol2]) ?_)) | ((with_reducible refine And.intro ?_ ?_); first | (with_reducible rfl) | assumption | (simp only [go_sem]; done)))
  refine WK_for (fun t : Nat => ⟨[.s i off l.length c, w, .any, .any, .any, .any, .s H.length 0 l.length (.u 0), .any, .any, .any, .any, .any, .any, .any, .any, .any, .any, .any, .any, w, .v (.int .i64 Q.length), .v (.int .i64 t)] ++ junk 32, H ++ [⟨(tpL l (Q.take t)).flatMap (rowL .u16 12), 64, .own 12⟩]⟩) (fun t => t ≤ Q.length ∧ ∀ j (hj : j < Q.length), j < t → validT l.length Q[j] = true) (fun t => Q.length - t) 0 (Weak.slots ?_) ?_ fun t ht => ?_
  · simp [go_sem]
  · simp
  have hval : ∀ f ∈ Q.take t, validT l.length f = true := fun f hf => by
    obtain ⟨j, hj, rfl⟩ := List.mem_iff_getElem.1 hf
    rw [List.getElem_take]; simp at hj; exact ht.2 j (by omega) (by omega)
  have htl := tpL_len l (Q.take t) hval
  rcases Int.lt_or_le (t : Int) Q.length with hc | hc
  · have hj : t < Q.length := by omega
    obtain ⟨i2, off2, c2, b2, rfl, hat2, hfit2⟩ := hw2.full (by omega)
    have hlt2 := hat2.lt
    have a0 := hat2.elem (rowL .i64 2) 2 hz2 hj
    have hfit := hat2.fits (rowL .i64 2) 2 hz2 hj (by omega)
    have c0 : cel (rowL .i64 2 Q[t]) 0 = .v (.int .i64 (Q[t] 0)) := rfl
    have c1 : cel (rowL .i64 2 Q[t]) 1 = .v (.int .i64 (Q[t] 1)) := rfl
    have g2 : ∀ L : List Blk, (H ++ L)[i2]? = some b2 := fun L => get_app hat2.get
    by_cases hv : validT l.length Q[t] = true
    · have hv2 := validT_iff.1 hv
      have hs := tpL_take l hj
      obtain ⟨p, hp⟩ : ∃ p : Nat, Q[t] 0 = p := ⟨(Q[t] 0).toNat, by omega⟩
      obtain ⟨q, hq2⟩ : ∃ q : Nat, Q[t] 1 = q := ⟨(Q[t] 1).toNat, by omega⟩
      rw [hp, hq2] at hs
      rw [hp] at c0
      rw [hq2] at c1
      simp only [Int.toNat_natCast] at hs
      have hpq : p ≤ q := by omega
      have hqn : q < l.length := by omega
      have h1 : (decide (0 ≤ (p : Int)) && decide ((p : Int) ≤ (l.length : Int) - 1)) = true := by simp; omega
      have h2 : (decide (0 ≤ (q : Int)) && decide ((q : Int) ≤ (l.length : Int) - 1)) = true := by simp; omega
      have h3 : ((q : Int) < (p : Int)) = False := eq_false (by omega)
      have h4 : ((p : Int) = (l.length : Int)) = False := eq_false (by omega)
      have t1 : ((q : Int) + 1).toNat = q + 1 := by omega
      have hfl : ((tpL l (Q.take t)).flatMap (rowL .u16 12)).length = l.length * 12 := by rw [flat_len (rowL .u16 12) 12 hz12, htl]
      have hrv := revW_turn (tpL l (Q.take t)) hpq (by omega)
      rw [← hs] at hrv
      repeat (first | (simp only [go_sem, Int.reduceLT, Int.reduceLE, Int.reduceEq, Int.reduceToNat, hT, hc, g2, hat2.live, a0, hfit, hlt2, c0, c1, h1, h2, h3, h4, t1, hfl, hrv, zeroA]) | ((with_reducible refine And.intro ?_ ?_); omega) | ((with_reducible refine isSK ?_); first | (refine call_ret (isPage h.app (by omega)) (by simp only [go_sem, Int.reduceLT, Int.reduceLE, Int.reduceEq, Int.reduceToNat, hT, hc, g2, hat2.live, a0, hfit, hlt2, c0, c1, h1, h2, h3, h4, t1, hfl, hrv, zeroA]) ?_) | (refine call_ret (reverseB (a := p) (n := q + 1 - p) (L := tpL l (Q.take t)) (by first | exact (Go.Sx.get_at0 _ _).trans rfl | exact (Go.Sx.get_at _ _ 1).trans rfl | exact (Go.Sx.get_at _ _ 2).trans rfl | exact (Go.Sx.get_at _ _ 3).trans rfl | exact (Go.Sx.get_at _ _ 4).trans rfl | exact (Go.Sx.get_at _ _ 5).trans rfl | exact (Go.Sx.get_at _ _ 6).trans rfl | exact (Go.Sx.get_at _ _ 7).trans rfl | exact (Go.Sx.get_at _ _ 8).trans rfl | exact (Go.Sx.get_at _ _ 9).trans rfl | exact (Go.Sx.get_at _ _ 10).trans rfl | exact (Go.Sx.get_at _ _ 11).trans rfl | exact (Go.Sx.get_at _ _ 12).trans rfl | exact (Go.Sx.get_at _ _ 13).trans rfl | exact (Go.Sx.get_at _ _ 14).trans rfl | exact (Go.Sx.get_at _ _ 15).trans rfl) (by rfl) (by omega) (by omega)) (by simp only [go_sem, Int.reduceLT, Int.reduceLE, Int.reduceEq, Int.reduceToNat, hT, hc, g2, hat2.live, a0, hfit, hlt2, c0, c1, h1, h2, h3, h4, t1, hfl, hrv, zeroA]) ?_)) | ((with_reducible refine isMC ?_); first | (refine mcall_ret (isPage h.app (by omega)) (by simp only [go_sem, Int.reduceLT, Int.reduceLE, Int.reduceEq, Int.reduceToNat, hT, hc, g2, hat2.live, a0, hfit, hlt2, c0, c1, h1, h2, h3, h4, t1, hfl, hrv, zeroA]) (by simp only [go_sem, Int.reduceLT, Int.reduceLE, Int.reduceEq, Int.reduceToNat, hT, hc, g2, hat2.live, a0, hfit, hlt2, c0, c1, h1, h2, h3, h4, t1, hfl, hrv, zeroA]) ?_) | (refine mcall_ret (reverseB (a := p) (n := q + 1 - p) (L := tpL l (Q.take t)) (by first | exact (Go.Sx.get_at0 _ _).trans rfl | exact (Go.Sx.get_at _ _ 1).trans rfl | exact (Go.Sx.get_at _ _ 2).trans rfl | exact (Go.Sx.get_at _ _ 3).trans rfl | exact (Go.Sx.get_at _ _ 4).trans rfl | exact (Go.Sx.get_at _ _ 5).trans rfl | exact (Go.Sx.get_at _ _ 6).trans rfl | exact (Go.Sx.get_at _ _ 7).trans rfl | exact (Go.Sx.get_at _ _ 8).trans rfl | exact (Go.Sx.get_at _ _ 9).trans rfl | exact (Go.Sx.get_at _ _ 10).trans rfl | exact (Go.Sx.get_at _ _ 11).trans rfl | exact (Go.Sx.get_at _ _ 12).trans rfl | exact (Go.Sx.get_at _ _ 13).trans rfl | exact (Go.Sx.get_at _ _ 14).trans rfl | exact (Go.Sx.get_at _ _ 15).trans rfl) (by rfl) (by omega) (by omega)) (by simp only [go_sem, Int.reduceLT, Int.reduceLE, Int.reduceEq, Int.reduceToNat, hT, hc, g2, hat2.live, a0, hfit, hlt2, c0, c1, h1, h2, h3, h4, t1, hfl, hrv, zeroA]) (by simp only [go_sem, Int.reduceLT, Int.reduceLE, Int.reduceEq, Int.reduceToNat, hT, hc, g2, hat2.live, a0, hfit, hlt2, c0, c1, h1, h2, h3, h4, t1, hfl, hrv, zeroA]) ?_)) | ((with_reducible refine And.intro ?_ ?_); first | (with_reducible rfl) | assumption | (simp only [go_sem]; done)))
      refine EK_again (t + 1) ?_ ⟨by omega, fun j hj2 hj3 => ?_⟩ (by omega)
      · exact Weak.keepN rfl (by simp [go_sem] <;> omega) (by simp [hx]) (by simp [go_sem, hil, hlt2, (flat_rowL .u16 12).lts] <;> omega) (hw.app (by simp [go_sem, hil, hlt2, (flat_rowL .u16 12).lts] <;> omega))
      · by_cases e3 : j = t
        · subst e3; exact hv
        · exact ht.2 j hj2 (by omega)
    · exact absurd (hv0 _ (List.getElem_mem hj)) hv
  · have : t = Q.length := by omega
    subst this
    repeat (first | (simp only [go_sem, Int.reduceLT, Int.reduceLE, Int.reduceEq, Int.reduceToNat, hT, Int.not_lt.2 hc]) | ((with_reducible refine And.intro ?_ ?_); omega) | ((with_reducible refine And.intro ?_ ?_); first | (with_reducible rfl) | assumption | (simp only [go_sem]; done)))
    refine ret_at hq _ (.inl rfl) (by simp) ?_
    rw [List.take_length]
    simp [go_sem]


theorem implTurnPages_badR {H : List Blk} {v w : V} {l Q : List (Nat → Int)} (h : Rd H v (rowL .u16 12) l) (hw2 : Rd H w (rowL .i64 2) Q) (hl : l.length ≤ 1000000) (e : okB l = true) (hT1 : Q.length ≤ 200) (hv0 : ∃ f ∈ Q, validT l.length f = false) :
    Cal Try.prog 23 [v, w] H fun u H' => u = .t [.v (.slice none 0 0), .v (.int .i64 (tpC l Q))] ∧ H' = H := by
  rcases h with ⟨rfl, rfl⟩ | ⟨i, off, c, b, rfl, hat, hf⟩
  · exact implTurnPages_nil hw2 hT1
  · exact implTurnPages_bad hat hf hw2 hl e hT1 hv0
theorem implTurnPages_okF {H : List Blk} {i n : Nat} {c : Cap} {w : V} {l r Q : List (Nat → Int)} {ty : TypeId} {kd : BK} (hb : H[i]? = some ⟨(l ++ r).flatMap (rowL .u16 12), ty, kd⟩) (hw2 : Rd H w (rowL .i64 2) Q) (hl : l.length ≤ 1000000) (e : okB l = true) (hT1 : Q.length ≤ 200) (hv0 : ∀ f ∈ Q, validT l.length f = true) (hkd : kd.live = true := by rfl) (hn : n = l.length := by rfl) :
    Cal Try.prog 23 [.s i 0 n c, w] H fun u H' => u = .t [.s H.length 0 (tpL l Q).length (.u 0), .v (.int .i64 0)] ∧ H' = H ++ [⟨(tpL l Q).flatMap (rowL .u16 12), 64, .own 12⟩] := by
  subst hn
  rw [tpL_len l Q hv0]
  have hat : At H i 0 (l.flatMap (rowL .u16 12)) ⟨(l ++ r).flatMap (rowL .u16 12), ty, kd⟩ := ⟨hb, hkd, by rw [List.flatMap_append]; exact seg_app _ _⟩
  exact implTurnPages_ok hat (by simp) hw2 hl e hT1 hv0

end Go.Proofs.Ytjkkallcgplgmaa

