/- Contracts of functions of the translated program, by the walk. -/
import Derived.Test.YtaekjojblkhfdaaGreatDoorF2
import Derived.Test.YtaekjojblkhfdaaGreatDoorLD
import Derived.Test.YtaekjojblkhfdaaGreatDoorBo1
import Derived.Test.YtaekjojblkhfdaaGreatDoorC6
import Derived.Test.YtaekjojblkhfdaaGreatDoorPo1
set_option linter.unusedVariables false
set_option linter.unusedSimpArgs false
set_option maxRecDepth 8000
set_option maxHeartbeats 16000000
namespace Go.Proofs.YtaekjojblkhfdaaGreatDoor
open Go Go.Sx
theorem rdTake {α : Type} {H : List Blk} {i off n : Nat} {c c' : Cap} {b : Blk} {enc : α → List V} {z : Nat} (hz : ∀ x, (enc x).length = z) {l : List α} (h : At H i off (l.flatMap enc) b) (hf : off + (l.flatMap enc).length ≤ b.cells.length) (hn : n ≤ l.length) : Rd H (.s i off n c') enc (l.take n) := by
  have e : l.flatMap enc = (l.take n).flatMap enc ++ (l.drop n).flatMap enc := by rw [← List.flatMap_append, List.take_append_drop]
  have hl : (l.take n).length = n := by rw [List.length_take]; omega
  refine .inr ⟨i, off, c', b, by rw [hl], ?_, ?_⟩
  · rw [e] at h; exact h.left
  · rw [e, List.length_append] at hf; omega
theorem isOrderOf {H : List Blk} {v : V} {o : List Int} {n : Nat} (h : Rd H v i64C o) (hl : o.length ≤ 1000000) (hn : n ≤ 1000000) :
    Cal Tryz.prog 39 [v, .v (.int .i64 n)] H fun u H' => u = .v (.bool (isOrd o n)) ∧ H' = H := by
  have hsol := h.solid
  have hL := h.lenV (P := Tryz.prog) slTy27
  have hvl : V.lt H.length v = True := h.vlt (Nat.le_refl _)
  have hcl : cellsL v = [v] := by
    rcases h with ⟨rfl, _⟩ | ⟨i, off, c, b, rfl, _⟩ <;> rfl
  by_cases hne : o = []
  · have hN : isOrd o n = decide (o.length = n) := isOrd_len (by rw [hne]; exact ⟨rfl, (fun k hk => by cases hk), List.nodup_nil⟩)
    have he := h; rw [hne] at he
    have hL0 := he.lenV (P := Tryz.prog) slTy27
    refine cal_fn 24 mixed Tryz.func39 Tryz.ntmps39 Tryz.results39 rfl rfl rfl fun hw cx hx hq => ?_
    repeat (first | (simp only [go_sem, Int.reduceLT, Int.reduceLE, Int.reduceEq, Int.reduceToNat, hsol, hL, hcl]) | ((with_reducible refine isSK ?_); first | refine call_ret (valuesC hsol) ?_ ?_ | refine call_ret (sortedNil (he.app) (by exact (Go.Sx.get_at0 _ _).trans rfl )) ?_ ?_) )
    refine WK_for (fun i : Nat => ⟨[v, .v (.int .i64 n), .any, .any, .any, .any, .any, .any, .any, .any, .any, .v (.slice none 0 0), .v (.int .i64 (0 : Nat)), .v (.int .i64 i)] ++ junk 12, H ++ [⟨[v], 27, .fix⟩]⟩) (fun i => i = 0) (fun i => i) 0 (Weak.slots ?_) ?_ fun i hi => ?_
    · simp [go_sem]
    · simp
    have hc3 : ¬ ((i : Int) < ((0 : Nat) : Int)) := by omega
    repeat ((simp only [go_sem, Int.reduceLT, Int.reduceLE, Int.reduceEq, Int.reduceToNat, hL, hc3]) )
    refine ret_cut hq hw _ (.inl rfl) ?_
    simp [go_sem, hN] <;> omega
  refine cal_fn 24 mixed Tryz.func39 Tryz.ntmps39 Tryz.results39 rfl rfl rfl fun hw cx hx hq => ?_
  repeat (first | (simp only [go_sem, Int.reduceLT, Int.reduceLE, Int.reduceEq, Int.reduceToNat, hsol, hL, hcl]) | ((with_reducible refine isSK ?_); first | refine call_ret (valuesC hsol) ?_ ?_ | refine call_ret (sortedC (l := o) (h.app) hl (by exact (Go.Sx.get_at0 _ _).trans rfl ) hne) ?_ ?_) )
  have hsl := sortL_len o
  refine WK_for (fun i : Nat => ⟨[v, .v (.int .i64 n), .any, .any, .any, .any, .any, .any, .any, .any, .any, .s (H.length + 1) 0 o.length (.u 0), .v (.int .i64 o.length), .v (.int .i64 i)] ++ junk 12, H ++ [⟨[v], 27, .fix⟩, ⟨(sortL o).flatMap i64C, 2, .own 1⟩]⟩) (fun i => i ≤ o.length ∧ ∀ j (hj : j < (sortL o).length), j < i → (sortL o)[j] = (j : Int)) (fun i => o.length - i) 0 (Weak.slots ?_) ?_ fun i hi => ?_
  · simp [go_sem]
  · simp
  rcases Int.lt_or_le (i : Int) o.length with hc | hc
  · have hj : i < (sortL o).length := by omega
    have hfl : ((sortL o).flatMap i64C).length = o.length := by rw [flat_i64.flen, Nat.mul_one, hsl]
    have hcel := (At.mk0 (H := []) (L := []) (cs := (sortL o).flatMap i64C) (t := 0) (k := .own 1) rfl).i64 hj
    simp only [Nat.zero_add] at hcel
    by_cases e : (sortL o)[i] = (i : Int)
    · have e1 : ((sortL o)[i] = (i : Int)) = True := eq_true e
      repeat (first | (simp only [go_sem, Int.reduceLT, Int.reduceLE, Int.reduceEq, Int.reduceToNat, hc, hcel, hfl, e1]) | ((with_reducible refine And.intro ?_ ?_); omega) )
      refine EK_again (i + 1) (Weak.slots (by simp [go_sem])) ⟨by omega, fun j hj2 hj3 => ?_⟩ (by omega)
      by_cases e3 : j = i
      · subst e3; exact e
      · exact hi.2 j hj2 (by omega)
    · have e1 : ((sortL o)[i] = (i : Int)) = False := eq_false e
      have hr : isOrd o n = false := isOrd_false fun h2 => e (sortL_ord h2 i hj)
      repeat (first | (simp only [go_sem, Int.reduceLT, Int.reduceLE, Int.reduceEq, Int.reduceToNat, hc, hcel, hfl, e1]) | ((with_reducible refine And.intro ?_ ?_); omega) )
      refine ret_cut hq hw _ (.inl rfl) ?_
      simp [go_sem, hr]
  · have hr : isOrd o n = decide (o.length = n) := isOrd_len (ord_of_sortL fun j hj => hi.2 j hj (by omega))
    repeat ((simp only [go_sem, Int.reduceLT, Int.reduceLE, Int.reduceEq, Int.reduceToNat, hL, Int.not_lt.2 hc]) )
    refine ret_cut hq hw _ (.inl rfl) ?_
    simp [go_sem, hr] <;> omega
def orC (l : List (Nat → Int)) (o : List Int) : Int := if okB l = true then (if isOrd o l.length = true then 0 else 4) else 1
theorem orC_ok {l : List (Nat → Int)} {o : List Int} (h : orC l o = 0) : okB l = true ∧ OrdP o l.length := by
  unfold orC at h
  split at h
  · rename_i e
    split at h
    · rename_i e2; exact ⟨e, isOrd_iff.1 e2⟩
    · cases h
  · cases h
theorem orC_okI {l : List (Nat → Int)} {o : List Int} (h : orC l o = 0) : okI l o := fun k hk => (orC_ok h).2.2.1 k hk
theorem checkOrder {H : List Blk} {v w : V} {l : List (Nat → Int)} {o : List Int} (h : Rd H v (rowL .u16 12) l) (h2 : Rd H w i64C o) (hl : l.length ≤ 1000000) (hlo : o.length ≤ 1000000) :
    Cal Tryz.prog 40 [v, w] H fun u H' => u = .v (.int .i64 (orC l o)) ∧ H' = H := by
  have hsol := h.solid
  have hsol2 := h2.solid
  have hL := h.lenV (P := Tryz.prog) slTy25
  refine cal_fn 13 mixed Tryz.func40 Tryz.ntmps40 Tryz.results40 rfl rfl rfl fun hw cx hx hq => ?_
  by_cases e : okB l = true
  · cases e2 : isOrd o l.length
    · have hC : orC l o = 4 := by unfold orC; rw [if_pos e, if_neg (by rw [e2]; simp)]
      repeat (first | (simp only [go_sem, Int.reduceLT, Int.reduceLE, Int.reduceEq, Int.reduceToNat, hsol, hsol2, e, e2, hL]) | ((with_reducible refine isSK ?_); first | refine call_ret (validBook h (by omega)) ?_ ?_ | refine call_ret (isOrderOf h2 hlo hl) ?_ ?_) )
      refine ret_same hq _ (.inl rfl) ?_
      simp [go_sem, hC]
    · have hC : orC l o = 0 := by unfold orC; rw [if_pos e, if_pos e2]
      repeat (first | (simp only [go_sem, Int.reduceLT, Int.reduceLE, Int.reduceEq, Int.reduceToNat, hsol, hsol2, e, e2, hL]) | ((with_reducible refine isSK ?_); first | refine call_ret (validBook h (by omega)) ?_ ?_ | refine call_ret (isOrderOf h2 hlo hl) ?_ ?_) )
      refine ret_same hq _ (.inl rfl) ?_
      simp [go_sem, hC]
  · have hC : orC l o = 1 := by unfold orC; rw [if_neg e]
    rw [Bool.not_eq_true] at e
    repeat (first | (simp only [go_sem, Int.reduceLT, Int.reduceLE, Int.reduceEq, Int.reduceToNat, hsol, e]) | ((with_reducible refine isSK ?_); refine call_ret (validBook h (by omega)) ?_ ?_) )
    refine ret_same hq _ (.inl rfl) ?_
    simp [go_sem, hC]
end Go.Proofs.YtaekjojblkhfdaaGreatDoor
namespace Go.Proofs.YtaekjojblkhfdaaGreatDoor
open Go Go.Sx

theorem implReorderBook_ok {H : List Blk} {v w : V} {l : List (Nat → Int)} {o : List Int} (h : Rd H v (rowL .u16 12) l) (h2 : Rd H w i64C o) (hl : l.length ≤ 1000000) (hlo : o.length ≤ 1000000) (hc : orC l o = 0) :
    Cal Tryz.prog 21 [v, w] H fun u H' => u = .t [.s H.length 0 (inO l o).length (.u 0), .v (.int .i64 0)] ∧ H' = H ++ [⟨(inO l o).flatMap (rowL .u16 12), 50, .own 12⟩] := by
  have hsol := h.solid
  have hsol2 := h2.solid
  have hne : (orC l o = 0) = True := eq_true hc
  refine cal_fn 14 mixed Tryz.func21 Tryz.ntmps21 Tryz.results21 rfl rfl rfl fun hw cx hx hq => ?_
  repeat (first | (simp only [go_sem, Int.reduceLT, Int.reduceLE, Int.reduceEq, Int.reduceToNat, hsol, hsol2, hne]) | ((with_reducible refine isSK ?_); first | refine call_ret (checkOrder h h2 hl hlo) ?_ ?_ | refine call_ret (inOrder (l := l) (o := o) h h2 (orC_okI hc) hlo) ?_ ?_) )
  refine ret_at hq _ (.inl rfl) (by simp) ?_
  simp [go_sem, hc]
theorem implOrderJumps_ok {H : List Blk} {v w : V} {l : List (Nat → Int)} {o : List Int} (h : Rd H v (rowL .u16 12) l) (h2 : Rd H w i64C o) (hl : l.length ≤ 1000000) (hlo : o.length ≤ 1000000) (hR : ∀ f ∈ l, R16 f) (hc : orC l o = 0) :
    Cal Tryz.prog 10 [v, w] H fun u H' => u = .t [.v (.int .i64 (allJ (inO l o))), .v (.int .i64 0)] ∧ H' = H := by
  have hsol := h.solid
  have hsol2 := h2.solid
  have hne : (orC l o = 0) = True := eq_true hc
  have h12 := okB_12 (orC_ok hc).1 hR
  refine cal_fn 15 mixed Tryz.func10 Tryz.ntmps10 Tryz.results10 rfl rfl rfl fun hw cx hx hq => ?_
  repeat (first | (simp only [go_sem, Int.reduceLT, Int.reduceLE, Int.reduceEq, Int.reduceToNat, hsol, hsol2, hne]) | ((with_reducible refine isSK ?_); first | refine call_ret (checkOrder h h2 hl hlo) ?_ ?_ | refine call_ret (inOrder (l := l) (o := o) h h2 (orC_okI hc) hlo) ?_ ?_ | refine call_ret (allJumps (l := inO l o) (by exact Rd.own0 rfl (by rfl) (by rfl ) ) (inO_12 h12 _) (by rw [inO_len]; omega)) ?_ ?_) )
  refine ret_cut hq hw _ (.inl rfl) ?_
  simp [go_sem, hc]
end Go.Proofs.YtaekjojblkhfdaaGreatDoor
namespace Go.Proofs.YtaekjojblkhfdaaGreatDoor
open Go Go.Sx
def KU (H : List Blk) (v : V) (o : List Int) : Prop := ∃ bi, v = .s bi 0 o.length (.u 0) ∧ H[bi]? = some ⟨o.flatMap i64C, 2, .own 1⟩
theorem l04OrderU {H : List Blk} {v : V} {o : List Int} {n : Nat} (h : Rd H v i64C o) (hk : KU H v o) (hl : o.length ≤ 1000000) (hn : n ≤ 1000000) :
    Cal Tryz.prog 64 [v, .v (.int .i64 n)] H fun u H' => u = .v (.bool (isOrd o n)) ∧ H' = H := by
  have hsol := h.solid
  have hL := h.lenV (P := Tryz.prog) slTy27
  refine cal_fn 31 mixed Tryz.func64 Tryz.ntmps64 Tryz.results64 rfl rfl rfl fun hw cx hx hq => ?_
  by_cases e : o.length = n
  case neg =>
    have e1 : ((o.length : Int) = (n : Int)) = False := eq_false (by omega)
    have hr : isOrd o n = false := by rw [Bool.eq_false_iff]; intro h2; exact e (isOrd_iff.1 h2).1
    repeat ((simp only [go_sem, Int.reduceLT, Int.reduceLE, Int.reduceEq, Int.reduceToNat, hsol, hL, e1]) )
    refine ret_same hq _ (.inl rfl) ?_
    simp [go_sem, hr]
  subst e
  have e1 : ((o.length : Int) = (o.length : Int)) = True := eq_true rfl
  repeat ((simp only [go_sem, Int.reduceLT, Int.reduceLE, Int.reduceEq, Int.reduceToNat, hsol, hL, e1]) )
  refine WK_for (fun i : Nat => ⟨[v, .v (.int .i64 o.length), .any, .any, .any, .v (.int .i64 i)] ++ junk 27, H⟩) (fun i => i ≤ o.length ∧ (∀ k ∈ o.take i, 0 ≤ k ∧ k < (o.length : Int)) ∧ (o.take i).Nodup) (fun i => o.length - i) 0 (Weak.slots ?_) ?_ fun i hi => ?_
  · simp [go_sem]
  · simp
  rcases Int.lt_or_le (i : Int) o.length with hc | hc
  · have hj : i < o.length := by omega
    obtain ⟨bi, off, c, b, rfl, hat, hf⟩ := h.full (by omega)
    obtain ⟨bi2, hv2, hbk⟩ := hk
    cases hv2
    obtain rfl := Option.some.inj (hat.get.symm.trans hbk)
    have hco : coP 0 o.length (some ⟨o.flatMap i64C, 2, .own 1⟩) = True := eq_true ⟨by omega, by rw [flat_i64.flen]; omega⟩
    have hfo : (o.flatMap i64C).length = o.length := by rw [flat_i64.flen, Nat.mul_one]
    have hbl := hat.lt
    have hll := hat.len (by rw [flat_i64.flen]; omega)
    rw [flat_i64.flen] at hll
    have hz := hat.i64 hj
    rw [Nat.zero_add] at hz
    have hnt := nodup_take hj
    have hrd : Rd H (.s bi 0 i (.i 0)) i64C (o.take i) := rdTake (c := .i 0) (z := 1) (n := i) (l := o) (enc := i64C) (fun _ => rfl) hat hf (by omega)
    have htl : (o.take i).length ≤ 1000000 := by rw [List.length_take]; omega
    have hmt : ∀ k, k ∈ o.take (i + 1) ↔ k ∈ o.take i ∨ k = o[i] := fun k => by rw [List.take_succ_eq_append_getElem hj, List.mem_append, List.mem_singleton]
    generalize o[i] = x at hz hnt hmt
    have hbad : (¬ (0 ≤ x ∧ x < (o.length : Int)) ∨ x ∈ o.take i) → isOrd o o.length = false := fun hb => by
      rw [Bool.eq_false_iff]; intro h2
      have h3 := isOrd_iff.1 h2
      rcases hb with hb | hb
      · exact hb (h3.2.1 x (List.mem_of_mem_take ((hmt x).2 (.inr rfl))))
      · exact (hnt.1 (h3.2.2.sublist (List.take_sublist _ _))).2 hb
    by_cases h1 : (decide (0 ≤ x) && decide (x ≤ (o.length : Int) - 1)) = true
    · have hx1 : 0 ≤ x ∧ x < (o.length : Int) := by simp at h1; omega
      cases h2 : hasI (o.take i) x
      · have hx2 : x ∉ o.take i := fun hm => by rw [hasI_iff.2 hm] at h2; cases h2
        repeat (first | (simp only [go_sem, Int.reduceLT, Int.reduceLE, Int.reduceEq, Int.reduceToNat, hL, hc, hat.get, hat.live, hco, hfo, hz, h1, h2, ite_self, Nat.zero_mul, Nat.add_zero, Nat.sub_zero]) | ((with_reducible refine And.intro ?_ ?_); omega) | ((with_reducible refine isSK ?_); refine call_ret (l00Has hrd htl) ?_ ?_) | ((with_reducible refine isMC ?_); refine mcall_ret (l00In) ?_ ?_ ?_ ) | ((with_reducible refine isWKr (id := 6) ?_); refine WK_drawUp 6 [[],[],[0,1],[0,1,2],[],[4],[0,1,2,3,4,5],[0,1,2,3,4,5,6],[0,1,2,3,4,5,6,7],[0,1,2,3,4,5,6,7,8],[0,1,2,3,4,5,6,7,8],[0,1,2,3,4,5,6,7,8,9,10],[0,1,2,3,4,5,6,7,8],[0,1,2,3,4,5,6,7,8],[0,1,2,3,4,5,6,7,8,12,13],[0,1,2,3,4,5,6,7,8,12,13,14],[0,1,2,3,4,5,6,7,8,9,10,11,12,13,14,15],[0,1,2,3,4,5,6,7,8,9,10,11,12,13,14,15,16]] 16 (by kernel_rfl) ?_; dsimp only [List.take, List.drop]) )
        refine EK_again (i + 1) (Weak.slots (by simp [go_sem])) ⟨by omega, fun k hk2 => ?_, hnt.2 ⟨hi.2.2, hx2⟩⟩ (by omega)
        rcases (hmt k).1 hk2 with hk2 | rfl
        · exact hi.2.1 k hk2
        · exact hx1
      · have hr := hbad (.inr (hasI_iff.1 h2))
        repeat (first | (simp only [go_sem, Int.reduceLT, Int.reduceLE, Int.reduceEq, Int.reduceToNat, hL, hc, hat.get, hat.live, hco, hfo, hz, h1, h2, ite_self, Nat.zero_mul, Nat.add_zero, Nat.sub_zero]) | ((with_reducible refine And.intro ?_ ?_); omega) | ((with_reducible refine isSK ?_); refine call_ret (l00Has hrd htl) ?_ ?_) | ((with_reducible refine isMC ?_); refine mcall_ret (l00In) ?_ ?_ ?_ ) | ((with_reducible refine isWKr (id := 6) ?_); refine WK_drawUp 6 [[],[],[0,1],[0,1,2],[],[4],[0,1,2,3,4,5],[0,1,2,3,4,5,6],[0,1,2,3,4,5,6,7],[0,1,2,3,4,5,6,7,8],[0,1,2,3,4,5,6,7,8],[0,1,2,3,4,5,6,7,8,9,10],[0,1,2,3,4,5,6,7,8],[0,1,2,3,4,5,6,7,8],[0,1,2,3,4,5,6,7,8,12,13],[0,1,2,3,4,5,6,7,8,12,13,14],[0,1,2,3,4,5,6,7,8,9,10,11,12,13,14,15],[0,1,2,3,4,5,6,7,8,9,10,11,12,13,14,15,16]] 16 (by kernel_rfl) ?_; dsimp only [List.take, List.drop]) )
        refine ret_same hq _ (.inl rfl) ?_
        simp [go_sem, hr]
    · have hr := hbad (.inl fun hb => h1 (by simp; omega))
      rw [Bool.not_eq_true] at h1
      repeat (first | (simp only [go_sem, Int.reduceLT, Int.reduceLE, Int.reduceEq, Int.reduceToNat, hL, hc, hat.get, hat.live, hco, hfo, hz, h1, ite_self, Nat.zero_mul, Nat.add_zero, Nat.sub_zero]) | ((with_reducible refine And.intro ?_ ?_); omega) | ((with_reducible refine isMC ?_); refine mcall_ret (l00In) ?_ ?_ ?_ ) | ((with_reducible refine isWKr (id := 6) ?_); refine WK_drawUp 6 [[],[],[0,1],[0,1,2],[],[4],[0,1,2,3,4,5],[0,1,2,3,4,5,6],[0,1,2,3,4,5,6,7],[0,1,2,3,4,5,6,7,8],[0,1,2,3,4,5,6,7,8],[0,1,2,3,4,5,6,7,8,9,10],[0,1,2,3,4,5,6,7,8],[0,1,2,3,4,5,6,7,8],[0,1,2,3,4,5,6,7,8,12,13],[0,1,2,3,4,5,6,7,8,12,13,14],[0,1,2,3,4,5,6,7,8,9,10,11,12,13,14,15],[0,1,2,3,4,5,6,7,8,9,10,11,12,13,14,15,16]] 16 (by kernel_rfl) ?_; dsimp only [List.take, List.drop]) )
      refine ret_same hq _ (.inl rfl) ?_
      simp [go_sem, hr]
  · have e2 : i = o.length := by omega
    subst e2
    rw [List.take_length] at hi
    have hr : isOrd o o.length = true := isOrd_iff.2 ⟨rfl, hi.2⟩
    repeat ((simp only [go_sem, Int.reduceLT, Int.reduceLE, Int.reduceEq, Int.reduceToNat, hL, Int.not_lt.2 hc]) )
    refine ret_same hq _ (.inl rfl) ?_
    simp [go_sem, hr]
theorem l04OrderedU {H : List Blk} {v w : V} {l : List (Nat → Int)} {o : List Int} (h : Rd H v (rowL .u16 12) l) (h2 : Rd H w i64C o) (hk : KU H w o) (hl : l.length ≤ 1000000) (hlo : o.length ≤ 1000000) :
    Cal Tryz.prog 65 [v, w] H fun u H' => u = .v (.int .i64 (orC l o)) ∧ H' = H := by
  have hsol := h.solid
  have hsol2 := h2.solid
  have hL := h.lenV (P := Tryz.prog) slTy25
  refine cal_fn 11 mixed Tryz.func65 Tryz.ntmps65 Tryz.results65 rfl rfl rfl fun hw cx hx hq => ?_
  by_cases e : okB l = true
  · cases e2 : isOrd o l.length
    · have hC : orC l o = 4 := by unfold orC; rw [if_pos e, if_neg (by rw [e2]; simp)]
      repeat (first | (simp only [go_sem, Int.reduceLT, Int.reduceLE, Int.reduceEq, Int.reduceToNat, hsol, hsol2, e, e2, hL]) | ((with_reducible refine isSK ?_); first | refine call_ret (l02Ok h (by omega)) ?_ ?_ | refine call_ret (l04OrderU h2 hk hlo hl) ?_ ?_) )
      refine ret_same hq _ (.inl rfl) ?_
      simp [go_sem, hC]
    · have hC : orC l o = 0 := by unfold orC; rw [if_pos e, if_pos e2]
      repeat (first | (simp only [go_sem, Int.reduceLT, Int.reduceLE, Int.reduceEq, Int.reduceToNat, hsol, hsol2, e, e2, hL]) | ((with_reducible refine isSK ?_); first | refine call_ret (l02Ok h (by omega)) ?_ ?_ | refine call_ret (l04OrderU h2 hk hlo hl) ?_ ?_) )
      refine ret_same hq _ (.inl rfl) ?_
      simp [go_sem, hC]
  · have hC : orC l o = 1 := by unfold orC; rw [if_neg e]
    rw [Bool.not_eq_true] at e
    repeat (first | (simp only [go_sem, Int.reduceLT, Int.reduceLE, Int.reduceEq, Int.reduceToNat, hsol, e]) | ((with_reducible refine isSK ?_); refine call_ret (l02Ok h (by omega)) ?_ ?_) )
    refine ret_same hq _ (.inl rfl) ?_
    simp [go_sem, hC]
theorem specReorderBook_okU {H : List Blk} {v w : V} {l : List (Nat → Int)} {o : List Int} (h : Rd H v (rowL .u16 12) l) (h2 : Rd H w i64C o) (hk : KU H w o) (hl : l.length ≤ 1000000) (hlo : o.length ≤ 1000000) (hc : orC l o = 0) :
    Cal Tryz.prog 22 [v, w] H fun u H' => u = .t [.s H.length 0 (inO l o).length (.u 0), .v (.int .i64 0)] ∧ H' = H ++ [⟨(inO l o).flatMap (rowL .u16 12), 50, .own 12⟩] := by
  have hsol := h.solid
  have hsol2 := h2.solid
  have hne : (orC l o = 0) = True := eq_true hc
  refine cal_fn 15 mixed Tryz.func22 Tryz.ntmps22 Tryz.results22 rfl rfl rfl fun hw cx hx hq => ?_
  repeat (first | (simp only [go_sem, Int.reduceLT, Int.reduceLE, Int.reduceEq, Int.reduceToNat, hsol, hsol2, hne]) | ((with_reducible refine isSK ?_); first | refine call_ret (l04OrderedU h h2 hk hl hlo) ?_ ?_ | refine call_ret (l04Pages (l := l) (o := o) h h2 (orC_okI hc) hlo) ?_ ?_) )
  refine ret_at hq _ (.inl rfl) (by simp) ?_
  simp [go_sem, hc]
theorem P6OrderE {H : List Blk} {cv : V} {l : List Int} {n : Nat} (hr : Rd H cv u8C l) (h8 : B8 l) (hll : l.length ≤ 4096) (hn : n ≤ 6) :
    Cal Tryz.prog 6 [cv, .v (.int .i64 n)] H fun u H' => ∃ o : List Int, OrdP o n ∧ u = .s H.length 0 n (.u 0) ∧ H' = H ++ [⟨o.flatMap i64C, 2, .own 1⟩] := by
  refine (P6Order hr h8 hll (by omega)).mono ?_
  rintro _ _ ⟨o, ho, rfl, rfl⟩
  exact ⟨o, ho, by rw [ho.len], rfl⟩
theorem orC_12 {b : List (Nat → Int)} {o : List Int} (h12 : ∀ f ∈ b, F12 f) (hb6 : b.length ≤ 6) (ho : OrdP o b.length) : orC b o = 0 := by
  unfold orC
  rw [if_pos (okB_len h12 (by omega)), if_pos (isOrd_iff.2 ho)]
theorem roI {H : List Blk} {v w : V} {b : List (Nat → Int)} {o : List Int} (h : Rd H v (rowL .u16 12) b) (h2 : Rd H w i64C o) (h12 : ∀ f ∈ b, F12 f) (hb6 : b.length ≤ 6) (ho : OrdP o b.length) :
    Cal Tryz.prog 21 [v, w] H fun u H' => u = .t [.s H.length 0 b.length (.u 0), .v (.int .i64 0)] ∧ H' = H ++ [⟨(inO b o).flatMap (rowL .u16 12), 50, .own 12⟩] := by
  have := implReorderBook_ok h h2 (by omega) (by rw [ho.len]; omega) (orC_12 h12 hb6 ho)
  rwa [inO_len, ho.len] at this
theorem roS {H : List Blk} {v w : V} {b : List (Nat → Int)} {o : List Int} (h : Rd H v (rowL .u16 12) b) (h2 : Rd H w i64C o) (hk : KU H w o) (h12 : ∀ f ∈ b, F12 f) (hb6 : b.length ≤ 6) (ho : OrdP o b.length) :
    Cal Tryz.prog 22 [v, w] H fun u H' => u = .t [.s H.length 0 b.length (.u 0), .v (.int .i64 0)] ∧ H' = H ++ [⟨(inO b o).flatMap (rowL .u16 12), 50, .own 12⟩] := by
  have := specReorderBook_okU h h2 hk (by omega) (by rw [ho.len]; omega) (orC_12 h12 hb6 ho)
  rwa [inO_len, ho.len] at this
end Go.Proofs.YtaekjojblkhfdaaGreatDoor
namespace Go.Proofs.YtaekjojblkhfdaaGreatDoor
open Go Go.Sx
def opN (o : List Int) : Nat → List Int
  | 0 => List.replicate o.length 0
  | i + 1 => (opN o i).set (o[i]?.getD 0).toNat i
theorem opN_len (o : List Int) : ∀ n, (opN o n).length = o.length
  | 0 => by simp [opN]
  | n + 1 => by rw [opN, List.length_set, opN_len o n]
def opC (o : List Int) : Int := if 40 < o.length then 3 else if isOrd o o.length = true then 0 else 4
theorem opC_ok {o : List Int} (h : opC o = 0) : o.length ≤ 40 ∧ isOrd o o.length = true := by
  unfold opC at h
  split at h
  · cases h
  · split at h
    · rename_i h1 h2; exact ⟨by omega, h2⟩
    · cases h
theorem opN_zero (o : List Int) : zerosL [.v (.int .i64 0)] o.length = (opN o 0).flatMap i64C := zeros_flat i64C 0 _
theorem set_i64 (l : List Int) (j : Nat) (x : Int) (h : j < l.length) : wr (l.flatMap i64C) j [.v (.int .i64 x)] = (l.set j x).flatMap i64C := by
  have := flat_set i64C 1 (fun _ => rfl) l j x h
  rwa [Nat.mul_one] at this
theorem implOpp_ok {H : List Blk} {w : V} {o : List Int} (h2 : Rd H w i64C o) (hc : opC o = 0) :
    Cal Tryz.prog 19 [w] H fun u H' => u = .t [.s H.length 0 (opN o o.length).length (.k o.length), .v (.int .i64 0)] ∧ H' = H ++ [⟨(opN o o.length).flatMap i64C, 2, .fix⟩] := by
  have hsol2 := h2.solid
  have hL := h2.lenV (P := Tryz.prog) slTy27
  obtain ⟨hlen, e2⟩ := opC_ok hc
  have ho := isOrd_iff.1 e2
  have b1 : ((40 : Int) < (o.length : Int)) = False := eq_false (by omega)
  have hz := opN_zero o
  rw [opN_len]
  refine cal_fn 32 mixed Tryz.func19 Tryz.ntmps19 Tryz.results19 rfl rfl rfl fun hw cx hx hq => ?_
  repeat (first | (simp only [go_sem, Int.reduceLT, Int.reduceLE, Int.reduceEq, Int.reduceToNat, hsol2, hL, b1, e2, hz]) | ((with_reducible refine And.intro ?_ ?_); omega) | ((with_reducible refine isSK ?_); refine call_ret (isOrderOf (n := o.length) h2 (by omega) (by omega)) ?_ ?_) )
  refine WK_for (fun n : Nat => ⟨[w, .any, .any, .any, .s H.length 0 o.length (.k o.length), .any, .any, .any, .any, .any, .any, .any, .any, .any, .any, .any, .any, .any, .any, .any, w, .v (.int .i64 o.length), .v (.int .i64 n)] ++ junk 10, H ++ [⟨(opN o n).flatMap i64C, 2, .fix⟩]⟩) (fun n => n ≤ o.length) (fun n => o.length - n) 0 (Weak.slots ?_) ?_ fun n hn => ?_
  · simp [go_sem]
  · simp
  rcases Int.lt_or_le (n : Int) o.length with hc1 | hc1
  · have hj : n < o.length := by omega
    obtain ⟨i2, off2, c2, b2, rfl, hat2, hfit2⟩ := h2.full (by omega)
    have hcel := hat2.i64 hj
    have hfit := hat2.fits i64C 1 (fun _ => rfl) hj (by omega)
    have hlt2 := hat2.lt
    have g2 : ∀ L : List Blk, (H ++ L)[i2]? = some b2 := fun L => get_app hat2.get
    have hr := ho.2.1 o[n] (List.getElem_mem hj)
    obtain ⟨k, hk2⟩ : ∃ k : Nat, o[n] = k := ⟨o[n].toNat, by omega⟩
    rw [hk2] at hcel hr
    have hkl : k < o.length := by omega
    have hfl : ((opN o n).flatMap i64C).length = o.length := by rw [flat_i64.flen, Nat.mul_one, opN_len]
    have hs := set_i64 (opN o n) k (n : Int) (by rw [opN_len]; exact hkl)
    have hnext : opN o (n + 1) = (opN o n).set k (n : Int) := by
      rw [opN, List.getElem?_eq_getElem hj, Option.getD_some, hk2, Int.toNat_natCast]
    have hd : (i2 = H.length) = False := eq_false (by omega)
    repeat (first | (simp only [go_sem, Int.reduceLT, Int.reduceLE, Int.reduceEq, Int.reduceToNat, hL, hc1, hat2.get, g2, hat2.live, hcel, hfit, hlt2, hfl, hs, hd]) | ((with_reducible refine And.intro ?_ ?_); omega) )
    refine EK_again (n + 1) ?_ (by omega) (by omega)
    rw [hnext]
    exact Weak.slots (by simp [go_sem])
  · have : n = o.length := by omega
    subst this
    repeat ((simp only [go_sem, Int.reduceLT, Int.reduceLE, Int.reduceEq, Int.reduceToNat, hL, Int.not_lt.2 hc1]) )
    refine ret_at hq _ (.inl rfl) (by simp) ?_
    simp [go_sem]
end Go.Proofs.YtaekjojblkhfdaaGreatDoor
namespace Go.Proofs.YtaekjojblkhfdaaGreatDoor
open Go Go.Sx
def swF (f : Nat → Int) (a b n : Nat) (j : Nat) : Int := if a ≤ j ∧ j < a + n then f (b + (j - a)) else if b ≤ j ∧ j < b + n then f (a + (j - b)) else f j
def roF (f : Nat → Int) (a m b : Nat) (j : Nat) : Int := if a ≤ j ∧ j < a + (b - m) then f (m + (j - a)) else if a + (b - m) ≤ j ∧ j < b then f (a + (j - (a + (b - m)))) else f j
theorem swF_zero (f : Nat → Int) (a b : Nat) : swF f a b 0 = f := by
  funext j
  unfold swF
  (repeat' split) <;> first | rfl | (exfalso; omega) 
theorem swF_succ (f : Nat → Int) {a b n : Nat} (h : a + n < b) : upd (upd (swF f a b n) (a + n) (swF f a b n (b + n))) (b + n) (swF f a b n (a + n)) = swF f a b (n + 1) := by
  have e1 : swF f a b n (b + n) = f (b + n) := by unfold swF; (repeat' split) <;> first | rfl | (exfalso; omega) 
  have e2 : swF f a b n (a + n) = f (a + n) := by unfold swF; (repeat' split) <;> first | rfl | (exfalso; omega) 
  rw [e1, e2]
  funext j
  unfold upd swF
  (repeat' split) <;> first | rfl | (exfalso; omega) | (congr 1; omega)
theorem roF_end (f : Nat → Int) {m i : Nat} (h : i ≤ m) : swF f (m - i) m i = roF f (m - i) m (m + i) := by
  funext j
  unfold swF roF
  (repeat' split) <;> first | rfl | (exfalso; omega) | (congr 1; omega)
theorem roF_left (f : Nat → Int) {m i j : Nat} (h : i ≤ m) (hj : j < i) : roF (swF f (m - i) m j) (m - (i - j)) m (m + j) = roF f (m - i) m (m + j) := by
  funext x
  unfold roF swF
  (repeat' split) <;> first | rfl | (exfalso; omega) | (congr 1; omega)
theorem roF_right (f : Nat → Int) {m i j : Nat} (h : i ≤ m) (hj : i < j) : roF (swF f (m - i) (m + j - i) i) (m - i) m (m + (j - i)) = roF f (m - i) m (m + j) := by
  funext x
  unfold roF swF
  (repeat' split) <;> first | rfl | (exfalso; omega) | (congr 1; omega)
theorem roF_id (f : Nat → Int) {a m b : Nat} (h : a ≤ m ∧ m ≤ b) (h2 : a = m ∨ m = b) : roF f a m b = f := by
  funext j
  unfold roF
  (repeat' split) <;> first | rfl | (congr 1; omega)
structure Mix (f g : Nat → Int) (a b : Nat) : Prop where
  out : ∀ x, (x < a ∨ b ≤ x) → g x = f x
  to : ∀ x, a ≤ x → x < b → ∃ y, (a ≤ y ∧ y < b) ∧ g x = f y
  fro : ∀ x, a ≤ x → x < b → ∃ y, (a ≤ y ∧ y < b) ∧ f x = g y
theorem Mix.refl (f : Nat → Int) (a b : Nat) : Mix f f a b := ⟨fun _ _ => rfl, fun x h1 h2 => ⟨x, ⟨h1, h2⟩, rfl⟩, fun x h1 h2 => ⟨x, ⟨h1, h2⟩, rfl⟩⟩
theorem Mix.trans {f g h : Nat → Int} {a b : Nat} (h1 : Mix f g a b) (h2 : Mix g h a b) : Mix f h a b := by
  refine ⟨fun x hx => (h2.out x hx).trans (h1.out x hx), fun x ha hb => ?_, fun x ha hb => ?_⟩
  · obtain ⟨y, hy, e⟩ := h2.to x ha hb
    obtain ⟨z, hz, e2⟩ := h1.to y hy.1 hy.2
    exact ⟨z, hz, e.trans e2⟩
  · obtain ⟨y, hy, e⟩ := h1.fro x ha hb
    obtain ⟨z, hz, e2⟩ := h2.fro y hy.1 hy.2
    exact ⟨z, hz, e.trans e2⟩
theorem Mix.wide {f g : Nat → Int} {a b a' b' : Nat} (h : Mix f g a b) (ha : a' ≤ a) (hb : b ≤ b') : Mix f g a' b' := by
  refine ⟨fun x hx => h.out x (by omega), fun x h1 h2 => ?_, fun x h1 h2 => ?_⟩
  · by_cases hx : a ≤ x ∧ x < b
    · obtain ⟨y, hy, e⟩ := h.to x hx.1 hx.2
      exact ⟨y, by omega, e⟩
    · exact ⟨x, ⟨h1, h2⟩, h.out x (by omega)⟩
  · by_cases hx : a ≤ x ∧ x < b
    · obtain ⟨y, hy, e⟩ := h.fro x hx.1 hx.2
      exact ⟨y, by omega, e⟩
    · exact ⟨x, ⟨h1, h2⟩, (h.out x (by omega)).symm⟩
theorem Mix.rot (f : Nat → Int) {a m b : Nat} (h : a ≤ m ∧ m ≤ b) : Mix f (roF f a m b) a b := by
  refine ⟨fun x hx => ?_, fun x h1 h2 => ?_, fun x h1 h2 => ?_⟩
  · unfold roF; rw [if_neg (by omega), if_neg (by omega)]
  · unfold roF
    by_cases hx : x < a + (b - m)
    · rw [if_pos ⟨h1, hx⟩]; exact ⟨_, by omega, rfl⟩
    · rw [if_neg (by omega), if_pos (by omega)]; exact ⟨_, by omega, rfl⟩
  · by_cases hx : x < m
    · refine ⟨a + (b - m) + (x - a), by omega, ?_⟩
      unfold roF; rw [if_neg (by omega), if_pos (by omega)]; congr 1; omega
    · refine ⟨a + (x - m), by omega, ?_⟩
      unfold roF; rw [if_pos (by omega)]; congr 1; omega
theorem Mix.swap (f : Nat → Int) {a b i j : Nat} (hi : a ≤ i ∧ i < b) (hj : a ≤ j ∧ j < b) : Mix f (upd (upd f i (f j)) j (f i)) a b := by
  refine ⟨fun x hx => ?_, fun x h1 h2 => ?_, fun x h1 h2 => ?_⟩
  · unfold upd; rw [if_neg (by omega), if_neg (by omega)]
  · unfold upd
    by_cases e : x = j
    · rw [if_pos e]; exact ⟨i, hi, rfl⟩
    · rw [if_neg e]
      by_cases e2 : x = i
      · rw [if_pos e2]; exact ⟨j, hj, rfl⟩
      · rw [if_neg e2]; exact ⟨x, ⟨h1, h2⟩, rfl⟩
  · by_cases e : x = j
    · subst e
      by_cases e3 : i = x
      · refine ⟨x, ⟨h1, h2⟩, ?_⟩; unfold upd; rw [if_pos rfl, e3]
      · refine ⟨i, hi, ?_⟩; unfold upd; rw [if_neg e3, if_pos rfl]
    · by_cases e2 : x = i
      · refine ⟨j, hj, ?_⟩; unfold upd; rw [if_pos rfl, e2]
      · refine ⟨x, ⟨h1, h2⟩, ?_⟩; unfold upd; rw [if_neg e, if_neg e2]
def Bef (k : Int → Int) (x y : Int) : Prop := k x < k y ∨ (k x = k y ∧ x < y)
def Srt (k : Int → Int) (f : Nat → Int) (a b : Nat) : Prop := ∀ x y, a ≤ x → x < y → y < b → Bef k (f x) (f y)
theorem Srt.le {k : Int → Int} {f : Nat → Int} {a b : Nat} (h : Srt k f a b) {x y : Nat} (h1 : a ≤ x) (h2 : x ≤ y) (h3 : y < b) : k (f x) ≤ k (f y) := by
  rcases Nat.lt_or_eq_of_le h2 with h4 | rfl
  · have := h x y h1 h4 h3; unfold Bef at this; omega
  · exact Int.le_refl _
theorem Srt.sub {k : Int → Int} {f : Nat → Int} {a b a' b' : Nat} (h : Srt k f a b) (ha : a ≤ a') (hb : b' ≤ b) : Srt k f a' b' := fun x y h1 h2 h3 => h x y (by omega) h2 (by omega)
theorem Srt.congr {k : Int → Int} {f g : Nat → Int} {a b : Nat} (h : Srt k f a b) (e : ∀ x, a ≤ x → x < b → g x = f x) : Srt k g a b := fun x y h1 h2 h3 => by
  rw [e x h1 (by omega), e y (by omega) h3]; exact h x y h1 h2 h3
def Crs (k : Int → Int) (f : Nat → Int) (a m b : Nat) : Prop := ∀ x y, a ≤ x → x < m → m ≤ y → y < b → k (f x) = k (f y) → f x < f y
theorem srt_join {k : Int → Int} {f : Nat → Int} {a m b : Nat} (h1 : Srt k f a m) (h2 : Srt k f m b) (h3 : ∀ x y, a ≤ x → x < m → m ≤ y → y < b → Bef k (f x) (f y)) : Srt k f a b := fun x y hx hxy hy => by
  by_cases e : y < m
  · exact h1 x y hx hxy e
  · by_cases e2 : x < m
    · exact h3 x y hx e2 (by omega) hy
    · exact h2 x y (by omega) hxy hy
theorem sym_ok {k : Int → Int} {f : Nat → Int} {a m b s e d : Nat} (hl : Srt k f a m) (hr : Srt k f m b) (hc : Crs k f a m b) (ham : a ≤ s ∧ s ≤ m) (hmb : m ≤ e ∧ e ≤ b) (hd : d = s + (e - m))
    (f1 : a < s → e < b → k (f (s - 1)) ≤ k (f e)) (f2 : s < m → m < e → k (f (e - 1)) < k (f s)) {g1 g2 : Nat → Int} (m1 : Mix (roF f s m e) g1 a d) (s1 : Srt k g1 a d) (m2 : Mix g1 g2 d b) (s2 : Srt k g2 d b) :
    Srt k g2 a b := by
  have o1 : ∀ x, a ≤ x → x < d → g2 x = g1 x := fun x _ h => m2.out x (.inl h)
  refine srt_join (m := d) (s1.congr o1) s2 fun x y hx hxd hy hyb => ?_
  rw [o1 x hx hxd]
  obtain ⟨u, hu, eu⟩ := m1.to x hx hxd
  obtain ⟨v, hv, ev⟩ := m2.to y hy hyb
  rw [m1.out v (.inr hv.1)] at ev
  rw [eu, ev]
  have cu : (u < s ∧ roF f s m e u = f u) ∨ (s ≤ u ∧ roF f s m e u = f (m + (u - s))) := by
    unfold roF
    by_cases h : u < s
    · left; exact ⟨h, by rw [if_neg (by omega), if_neg (by omega)]⟩
    · right; exact ⟨by omega, by rw [if_pos (by omega)]⟩
  have cv : (v < e ∧ roF f s m e v = f (s + (v - (s + (e - m))))) ∨ (e ≤ v ∧ roF f s m e v = f v) := by
    unfold roF
    by_cases h : v < e
    · left; exact ⟨h, by rw [if_neg (by omega), if_pos (by omega)]⟩
    · right; exact ⟨by omega, by rw [if_neg (by omega), if_neg (by omega)]⟩
  rcases cu with ⟨h1, e1⟩ | ⟨h1, e1⟩ <;> rcases cv with ⟨h2, e2⟩ | ⟨h2, e2⟩ <;> rw [e1, e2]
  · exact hl _ _ (by omega) (by omega) (by omega)
  · have q := f1 (by omega) (by omega)
    have q1 := hl.le (x := u) (y := s - 1) (by omega) (by omega) (by omega)
    have q2 := hr.le (x := e) (y := v) (by omega) (by omega) (by omega)
    have q3 := hc u v (by omega) (by omega) (by omega) (by omega)
    unfold Bef; omega
  · have q := f2 (by omega) (by omega)
    have q1 := hr.le (x := m + (u - s)) (y := e - 1) (by omega) (by omega) (by omega)
    have q2 := hl.le (x := s) (y := s + (v - (s + (e - m)))) (by omega) (by omega) (by omega)
    unfold Bef; omega
  · exact hr _ _ (by omega) (by omega) (by omega)
theorem sym_lo {k : Int → Int} {f : Nat → Int} {a m b s e d : Nat} (hl : Srt k f a m) (hr : Srt k f m b) (hc : Crs k f a m b) (ham : a ≤ s ∧ s ≤ m) (hmb : m ≤ e ∧ e ≤ b) (hd : d = s + (e - m)) :
    Srt k (roF f s m e) a s ∧ Srt k (roF f s m e) s d ∧ Crs k (roF f s m e) a s d := by
  have g1 : ∀ x, x < s → roF f s m e x = f x := fun x h => by unfold roF; rw [if_neg (by omega), if_neg (by omega)]
  have g2 : ∀ x, s ≤ x → x < d → roF f s m e x = f (m + (x - s)) := fun x h h2 => by unfold roF; rw [if_pos (by omega)]
  refine ⟨(hl.sub (Nat.le_refl _) ham.2).congr fun x _ h => g1 x h, fun x y h1 h2 h3 => ?_, fun x y h1 h2 h3 h4 => ?_⟩
  · rw [g2 x h1 (by omega), g2 y (by omega) h3]; exact hr _ _ (by omega) (by omega) (by omega)
  · rw [g1 x h2, g2 y h3 h4]; exact hc _ _ h1 (by omega) (by omega) (by omega)
theorem sym_hi {k : Int → Int} {f g : Nat → Int} {a m b s e d : Nat} (hl : Srt k f a m) (hr : Srt k f m b) (hc : Crs k f a m b) (ham : a ≤ s ∧ s ≤ m) (hmb : m ≤ e ∧ e ≤ b) (hd : d = s + (e - m)) (hg : ∀ x, d ≤ x → g x = roF f s m e x) :
    Srt k g d e ∧ Srt k g e b ∧ Crs k g d e b := by
  have g1 : ∀ x, d ≤ x → x < e → g x = f (s + (x - d)) := fun x h h2 => by rw [hg x h]; unfold roF; rw [if_neg (by omega), if_pos (by omega), hd]
  have g2 : ∀ x, e ≤ x → g x = f x := fun x h => by rw [hg x (by omega)]; unfold roF; rw [if_neg (by omega), if_neg (by omega)]
  refine ⟨fun x y h1 h2 h3 => ?_, (hr.sub hmb.1 (Nat.le_refl _)).congr fun x h _ => g2 x h, fun x y h1 h2 h3 h4 => ?_⟩
  · rw [g1 x h1 (by omega), g1 y (by omega) h3]; exact hl _ _ (by omega) (by omega) (by omega)
  · rw [g1 x h1 h2, g2 y h3]; exact hc _ _ (by omega) (by omega) (by omega) h4
end Go.Proofs.YtaekjojblkhfdaaGreatDoor
namespace Go.Proofs.YtaekjojblkhfdaaGreatDoor
open Go Go.Sx
theorem swapRange {H : List Blk} {bi N : Nat} {f : Nat → Int} {ty : TypeId} {kd : BK} {c : Cap} {fn : Nat} {cs : List V} {a b n : Nat} {xa xb xn : Int} (hb : H[bi]? = some ⟨rowL .i64 N f, ty, kd⟩) (hk : kd.mut = true) (hN : N ≤ 1000) (hcs : cs.all V.solid = true) (ha : xa = a) (hb2 : xb = b) (hn : xn = n) (hab : a + n ≤ b) (hbn : b + n ≤ N) :
    Cal Tryz.prog 163 [.s bi 0 N c, .v (.int .i64 xa), .v (.int .i64 xb), .v (.int .i64 xn), .f fn cs] H fun u H' => u = .t [] ∧ H' = H.set bi ⟨rowL .i64 N (swF f a b n), ty, kd⟩ := by
  subst ha hb2 hn
  have hlt := (List.getElem?_eq_some_iff.1 hb).1
  have hgs : ∀ b : Blk, (H.set bi b)[bi]? = some b := fun b => List.getElem?_set_self hlt
  have hlive : kd.live = true := by cases kd <;> first | rfl | cases hk
  refine cal_fn 33 mixed Tryz.func163 Tryz.ntmps163 Tryz.results163 rfl rfl rfl fun hw cx hx hq => ?_
  repeat ((simp only [go_sem, Int.reduceLT, Int.reduceLE, Int.reduceEq, Int.reduceToNat, hcs]) )
  refine WK_for (fun i : Nat => ⟨[.s bi 0 N c, .v (.int .i64 (a : Int)), .v (.int .i64 (b : Int)), .v (.int .i64 (n : Int)), .f fn cs, .any, .any, .any, .any, .any, .v (.int .i64 i)] ++ junk 27, H.set bi ⟨rowL .i64 N (swF f a b i), ty, kd⟩⟩) (fun i => i ≤ n) (fun i => n - i) 0 ?_ (Nat.zero_le _) fun i hi => ?_
  · rw [swF_zero, set_get hb]; exact Weak.slots (by simp [go_sem])
  rcases Int.lt_or_le (i : Int) n with hc | hc
  · have g1 : a + i < N := by omega
    have g2 : b + i < N := by omega
    have t1 : ((a : Int) + (i : Int)).toNat = a + i := by omega
    have t2 : ((b : Int) + (i : Int)).toNat = b + i := by omega
    have hs := swF_succ f (a := a) (b := b) (n := i) (by omega)
    repeat (first | (simp only [go_sem, Int.reduceLT, Int.reduceLE, Int.reduceEq, Int.reduceToNat, hc, hgs, hk, hlive, hcs, List.set_set, rowL_length, t1, t2, rowL_cel _ _ _ g1, rowL_cel _ _ _ g2, rowL_wr _ _ _ g1, rowL_wr _ _ _ g2]) | ((with_reducible refine And.intro ?_ ?_); omega) | ((with_reducible refine isWKr (id := 3) ?_); refine WK_drawAt 3 [[],[],[],[1,2],[],[],[],[5,6],[],[],[],[9,10],[8,9,10,11],[8,9,10,11,12],[],[],[],[15,16],[14,15,16,17],[14,15,16,17,18],[0,1,2,3,8,9,10,11,12,13,14,15,16,17,18,19],[0,1,2,3,8,9,10,11,12,13,14,15,16,17,18,19,20],[0,1,2,3,4,5,6,7,8,9,10,11,12,13,14,15,16,17,18,19,20,21],[0,1,2,3,4,5,6,7,8,9,10,11,12,13,14,15,16,17,18,19,20,21,22]] (by kernel_rfl) ?_) )
    refine EK_again (i + 1) ?_ (by omega) (by omega)
    rw [hs]
    exact Weak.slots (by simp [go_sem] <;> omega)
  · have : i = n := by omega
    subst this
    repeat ((simp only [go_sem, Int.reduceLT, Int.reduceLE, Int.reduceEq, Int.reduceToNat, Int.not_lt.2 hc]) )
    refine ret_at hq _ (.inr rfl) (by simp) ?_
    simp [go_sem]
theorem rotate {H : List Blk} {bi N : Nat} {f : Nat → Int} {ty : TypeId} {kd : BK} {c : Cap} {fn : Nat} {cs : List V} {a m b : Nat} {xa xm xb : Int} (hb : H[bi]? = some ⟨rowL .i64 N f, ty, kd⟩) (hk : kd.mut = true) (hN : N ≤ 1000) (hcs : cs.all V.solid = true) (ha : xa = a) (hm : xm = m) (hb2 : xb = b) (ham : a < m) (hmb : m < b) (hbn : b ≤ N) :
    Cal Tryz.prog 136 [.s bi 0 N c, .v (.int .i64 xa), .v (.int .i64 xm), .v (.int .i64 xb), .f fn cs] H fun u H' => u = .t [] ∧ H' = H.set bi ⟨rowL .i64 N (roF f a m b), ty, kd⟩ := by
  subst ha hm hb2
  have hlt := (List.getElem?_eq_some_iff.1 hb).1
  have hgs : ∀ b : Blk, (H.set bi b)[bi]? = some b := fun b => List.getElem?_set_self hlt
  have hlive : kd.live = true := by cases kd <;> first | rfl | cases hk
  refine cal_fn 53 mixed Tryz.func136 Tryz.ntmps136 Tryz.results136 rfl rfl rfl fun hw cx hx hq => ?_
  repeat (first | (simp only [go_sem, Int.reduceLT, Int.reduceLE, Int.reduceEq, Int.reduceToNat, hcs]) | ((with_reducible refine And.intro ?_ ?_); omega) )
  refine WK_for (fun s : Nat × Nat × (Nat → Int) => ⟨[.s bi 0 N c, .v (.int .i64 (a : Int)), .v (.int .i64 (m : Int)), .v (.int .i64 (b : Int)), .f fn cs, .any, .any, .any, .any, .any, .v (.int .i64 s.1), .v (.int .i64 s.2.1)] ++ junk 46, H.set bi ⟨rowL .i64 N (s.2.2), ty, kd⟩⟩) (fun s => (0 < s.1 ∧ s.1 ≤ m) ∧ (0 < s.2.1 ∧ m + s.2.1 ≤ N) ∧ roF s.2.2 (m - s.1) m (m + s.2.1) = roF f a m b) (fun s => s.1 + s.2.1) (m - a, b - m, f) ?_ ?_ fun s hs => ?_
  · rw [set_get hb]; exact Weak.slots (by simp [go_sem] <;> omega)
  · refine ⟨by dsimp only; omega, by dsimp only; omega, ?_⟩
    show roF f (m - (m - a)) m (m + (b - m)) = _
    rw [show m - (m - a) = a by omega, show m + (b - m) = b by omega]
  obtain ⟨i, j, g⟩ := s
  obtain ⟨hi, hj, he⟩ := hs
  simp only at hi hj he ⊢
  by_cases e : i = j
  · subst e
    have e1 : ((i : Int) = (i : Int)) = True := eq_true rfl
    repeat (first | (simp only [go_sem, Int.reduceLT, Int.reduceLE, Int.reduceEq, Int.reduceToNat, hgs, hk, hlive, hcs, List.set_set, rowL_length, e1]) | ((with_reducible refine And.intro ?_ ?_); omega) | ((with_reducible refine isSK ?_); refine call_ret (swapRange (f := g) (a := m - i) (b := m) (n := i) (hgs _) hk hN hcs (by omega) rfl rfl (by omega) (by omega)) ?_ ?_) )
    refine ret_at hq _ (.inr rfl) (by simp) ?_
    rw [roF_end g hi.2, he]
    simp [go_sem]
  · have e1 : ((i : Int) = (j : Int)) = False := eq_false (by omega)
    by_cases e2 : j < i
    · have e3 : ((j : Int) < (i : Int)) = True := eq_true (by omega)
      repeat (first | (simp only [go_sem, Int.reduceLT, Int.reduceLE, Int.reduceEq, Int.reduceToNat, hgs, hk, hlive, hcs, List.set_set, rowL_length, e1, e3]) | ((with_reducible refine And.intro ?_ ?_); omega) | ((with_reducible refine isSK ?_); refine call_ret (swapRange (f := g) (a := m - i) (b := m) (n := j) (hgs _) hk hN hcs (by omega) rfl rfl (by omega) (by omega)) ?_ ?_) )
      refine EK_again (i - j, j, swF g (m - i) m j) (Weak.slots ?_) ⟨by dsimp only; omega, by dsimp only; omega, ?_⟩ (by dsimp only; omega)
      · simp [go_sem] <;> omega
      · dsimp only; rw [roF_left g hi.2 e2, he]
    · have e3 : ((j : Int) < (i : Int)) = False := eq_false (by omega)
      repeat (first | (simp only [go_sem, Int.reduceLT, Int.reduceLE, Int.reduceEq, Int.reduceToNat, hgs, hk, hlive, hcs, List.set_set, rowL_length, e1, e3]) | ((with_reducible refine And.intro ?_ ?_); omega) | ((with_reducible refine isSK ?_); refine call_ret (swapRange (f := g) (a := m - i) (b := m + j - i) (n := i) (hgs _) hk hN hcs (by omega) (by omega) rfl (by omega) (by omega)) ?_ ?_) )
      refine EK_again (i, j - i, swF g (m - i) (m + j - i) i) (Weak.slots ?_) ⟨by dsimp only; omega, by dsimp only; omega, ?_⟩ (by dsimp only; omega)
      · simp [go_sem] <;> omega
      · dsimp only; rw [roF_right g hi.2 (by omega), he]
end Go.Proofs.YtaekjojblkhfdaaGreatDoor
