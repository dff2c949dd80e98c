/- Contracts of functions of the translated program, by the walk. -/
import Derived.Test.YtaekjojblkhfdaaGreatDoorC6
import Derived.Test.YtaekjojblkhfdaaGreatDoorLD
set_option linter.unusedVariables false
set_option linter.unusedSimpArgs false
set_option maxRecDepth 8000
set_option maxHeartbeats 16000000
namespace Go.Proofs.YtaekjojblkhfdaaGreatDoor
open Go Go.Sx
def jl (l : List (Nat → Int)) (n : Nat) : List Int := (List.range n).map fun k => jmp l k (k + 1)
theorem jl_len (l : List (Nat → Int)) (n : Nat) : (jl l n).length = n := by simp [jl]
theorem jl_succ (l : List (Nat → Int)) (n : Nat) : jl l (n + 1) = jl l n ++ [jmp l n (n + 1)] := by simp [jl, List.range_succ]
theorem jl_range {l : List (Nat → Int)} {n : Nat} : ∀ x ∈ jl l n, 0 ≤ x ∧ x ≤ 144 := fun x hx => by
  unfold jl at hx
  obtain ⟨k, _, rfl⟩ := List.mem_map.1 hx
  exact jmp_le l k (k + 1)
theorem flat_snoc {α : Type} (enc : α → List V) (l : List α) (a : α) : (l ++ [a]).flatMap enc = l.flatMap enc ++ enc a := by simp
theorem jumps {H : List Blk} {v : V} {l : List (Nat → Int)} (h : Rd H v (rowL .u16 12) l) (h12 : ∀ f ∈ l, F12 f) (hl : l.length ≤ 1000000) :
    Cal Tryz.prog 85 [v] H fun u H' => u = .s H.length 0 (jl l (l.length - 1)).length (.u 0) ∧ H' = H ++ [⟨(jl l (l.length - 1)).flatMap i64C, 2, .own 1⟩] := by
  have hsol := h.solid
  have hL := h.lenV (P := Tryz.prog) slTy25
  refine cal_fn 25 mixed Tryz.func85 Tryz.ntmps85 Tryz.results85 rfl rfl rfl fun hw cx hx hq => ?_
  repeat ((simp only [go_sem, Int.reduceLT, Int.reduceLE, Int.reduceEq, Int.reduceToNat, hsol]) )
  refine WK_for (fun n : Nat => ⟨[v, .any, .any, .s H.length 0 (jl l n).length (.u 0), .v (.int .i64 ((n : Int) + 1))] ++ junk 21, H ++ [⟨(jl l n).flatMap i64C, 2, .own 1⟩]⟩) (fun n => n ≤ l.length - 1) (fun n => l.length - n) 0 (Weak.slots ?_) ?_ fun n hn => ?_
  · simp [go_sem, jl]
  · simp
  rcases Int.lt_or_le ((n : Int) + 1) l.length with hc | hc
  · obtain ⟨i, off, c, b, rfl, hat⟩ := h.row (by omega)
    have hil := hat.lt
    have a0 := hat.elem (rowL .u16 12) 12 hz12 (show n < l.length by omega)
    have a1 := hat.elem (rowL .u16 12) 12 hz12 (show n + 1 < l.length by omega)
    have f0 := hat.fits (rowL .u16 12) 12 hz12 (show n < l.length by omega) (by omega)
    have f1 := hat.fits (rowL .u16 12) 12 hz12 (show n + 1 < l.length by omega) (by omega)
    rw [← pg_at] at a0 a1
    have t0 : ((n : Int) + 1 - 1).toNat = n := by omega
    have t1 : ((n : Int) + 1).toNat = n + 1 := by omega
    have hn1 : norefH H.length H := norefH_wf hw (Nat.le_refl _)
    have hn2 : norefs H.length ((jl l n).flatMap i64C) = true := flat_i64.norefs _ _
    have hl2 : ((jl l n).flatMap i64C).length = (jl l n).length := by rw [flat_i64.flen, Nat.mul_one]
    have hle := jl_len l n
    have hij : (i = H.length) = False := eq_false (by omega)
    have hd1 : (H.length + 1 = H.length) = False := eq_false (by omega)
    have e3 := jl_succ l n
    repeat (first | (simp only [go_sem, Int.reduceLT, Int.reduceLE, Int.reduceEq, Int.reduceToNat, hL, hc, (get_app hat.get), hat.live, t0, t1, a0, a1, hn1, hn2, hl2, hij, hd1, hx]) | ((with_reducible refine And.intro ?_ ?_); omega) | ((with_reducible refine isMC ?_); refine mcall_ret (jump (pg_12 h12 _) (pg_12 h12 _)) ?_ ?_ ?_) | ((with_reducible refine isWKr (id := 5) ?_); refine WK_drawUp 5 [[],[],[],[2],[1,2,3],[1,2,3,4],[],[],[6,7],[6,7,8],[1,2,3,4,5,6,7,8,9],[1,2,3,4,5,6,7,8,9,10],[0,1,2,3,4,5,6,7,8,9,10,11],[0,1,2,3,4,5,6,7,8,9,10,11,12]] 12 (by kernel_rfl) ?_; dsimp only [List.take, List.drop]) )
    refine EK_again (n + 1) ?_ (by omega) (by omega)
    rw [e3, flat_snoc]
    exact Weak.keepN rfl (by simp [go_sem] <;> omega) (by simp [hx]) (by simp [go_sem, hil, flat_i64.lts, i64C, jmp] <;> omega) (hw.app (by simp [go_sem, hil, flat_i64.lts, i64C, jmp] <;> omega))
  · have : n = l.length - 1 := by omega
    subst this
    repeat ((simp only [go_sem, Int.reduceLT, Int.reduceLE, Int.reduceEq, Int.reduceToNat, hL, Int.not_lt.2 hc]) )
    refine ret_at hq _ (.inl rfl) (by simp) ?_
    simp [go_sem]
theorem l02Jumps {H : List Blk} {v : V} {l : List (Nat → Int)} (h : Rd H v (rowL .u16 12) l) (h12 : ∀ f ∈ l, F12 f) (hl : l.length ≤ 1000000) :
    Cal Tryz.prog 93 [v] H fun u H' => u = .s H.length 0 (jl l (l.length - 1)).length (.u 0) ∧ H' = H ++ [⟨(jl l (l.length - 1)).flatMap i64C, 2, .own 1⟩] := by
  have hsol := h.solid
  have hL := h.lenV (P := Tryz.prog) slTy25
  refine cal_fn 23 mixed Tryz.func93 Tryz.ntmps93 Tryz.results93 rfl rfl rfl fun hw cx hx hq => ?_
  repeat ((simp only [go_sem, Int.reduceLT, Int.reduceLE, Int.reduceEq, Int.reduceToNat, hsol]) )
  refine WK_for (fun n : Nat => ⟨[v, .any, .any, .s H.length 0 (jl l n).length (.u 0), .v (.int .i64 ((n : Int) + 1))] ++ junk 19, H ++ [⟨(jl l n).flatMap i64C, 2, .own 1⟩]⟩) (fun n => n ≤ l.length - 1) (fun n => l.length - n) 0 (Weak.slots ?_) ?_ fun n hn => ?_
  · simp [go_sem, jl]
  · simp
  rcases Int.lt_or_le ((n : Int) + 1) l.length with hc | hc
  · obtain ⟨i, off, c, b, rfl, hat⟩ := h.row (by omega)
    have hil := hat.lt
    have a0 := hat.el hz12 (show n < l.length by omega)
    have a1 := hat.el hz12 (show n + 1 < l.length by omega)
    rw [← pg_at] at a0 a1
    have t0 : ((n : Int) + 1 - 1).toNat = n := by omega
    have t1 : ((n : Int) + 1).toNat = n + 1 := by omega
    have hn1 : norefH H.length H := norefH_wf hw (Nat.le_refl _)
    have hn2 : norefs H.length ((jl l n).flatMap i64C) = true := flat_i64.norefs _ _
    have hl2 : ((jl l n).flatMap i64C).length = (jl l n).length := by rw [flat_i64.flen, Nat.mul_one]
    have hle := jl_len l n
    have hij : (i = H.length) = False := eq_false (by omega)
    have hd1 : (H.length + 1 = H.length) = False := eq_false (by omega)
    have e3 := jl_succ l n
    repeat (first | (simp only [go_sem, Int.reduceLT, Int.reduceLE, Int.reduceEq, Int.reduceToNat, hL, hc, t0, t1, hn1, hn2, hl2, hij, hd1, hx]) | ((with_reducible refine And.intro ?_ ?_); omega) | ((with_reducible refine isMC ?_); refine mcall_ret (l01Differ a0.app a1.app (pg_12 h12 _) (pg_12 h12 _)) ?_ ?_ ?_) | ((with_reducible refine isWKr (id := 5) ?_); refine WK_drawUp 5 [[],[],[],[2],[1,2,3],[],[],[5,6],[1,2,3,4,5,6,7],[1,2,3,4,5,6,7,8],[0,1,2,3,4,5,6,7,8,9],[0,1,2,3,4,5,6,7,8,9,10]] 10 (by kernel_rfl) ?_; dsimp only [List.take, List.drop]) )
    refine EK_again (n + 1) ?_ (by omega) (by omega)
    rw [e3, flat_snoc]
    exact Weak.keepN rfl (by simp [go_sem] <;> omega) (by simp [hx]) (by simp [go_sem, hil, flat_i64.lts, i64C, jmp] <;> omega) (hw.app (by simp [go_sem, hil, flat_i64.lts, i64C, jmp] <;> omega))
  · have : n = l.length - 1 := by omega
    subst this
    repeat ((simp only [go_sem, Int.reduceLT, Int.reduceLE, Int.reduceEq, Int.reduceToNat, hL, Int.not_lt.2 hc]) )
    refine ret_at hq _ (.inl rfl) (by simp) ?_
    simp [go_sem]
def smT (l : List Int) : Nat → Int
  | 0 => 0
  | n + 1 => smT l n + (l[n]?.getD 0)
theorem smT_range {l : List Int} (h : ∀ x ∈ l, 0 ≤ x ∧ x ≤ 144) : ∀ n, 0 ≤ smT l n ∧ smT l n ≤ 144 * n
  | 0 => by simp [smT]
  | n + 1 => by
    have ih := smT_range h n
    unfold smT
    cases e : l[n]? with
    | none => simp; omega
    | some x => have := h x (List.mem_of_getElem? e); simp; omega
def allJ (l : List (Nat → Int)) : Int := smT (jl l (l.length - 1)) (l.length - 1)
theorem allJ_range (l : List (Nat → Int)) : 0 ≤ allJ l ∧ allJ l ≤ 144 * (l.length - 1 : Nat) := smT_range jl_range _
theorem get_i {l : List Int} {n : Nat} (h : n < l.length) : l[n]?.getD 0 = l[n] := by rw [List.getElem?_eq_getElem h]; rfl
theorem l02Sum {H : List Blk} {v : V} {l : List Int} (h : Rd H v i64C l) (hr : ∀ x ∈ l, 0 ≤ x ∧ x ≤ 144) (hl : l.length ≤ 1000000) :
    Cal Tryz.prog 92 [v] H fun u H' => u = .v (.int .i64 (smT l l.length)) ∧ H' = H := by
  have hsol := h.solid
  have hL := h.lenV (P := Tryz.prog) slTy27
  refine cal_fn 17 mixed Tryz.func92 Tryz.ntmps92 Tryz.results92 rfl rfl rfl fun hw cx hx hq => ?_
  repeat ((simp only [go_sem, Int.reduceLT, Int.reduceLE, Int.reduceEq, Int.reduceToNat, hsol]) )
  refine WK_for (fun n : Nat => ⟨[v, .any, .any, .v (.int .i64 (smT l n)), .v (.int .i64 n)] ++ junk 13, H⟩) (fun n => n ≤ l.length) (fun n => l.length - n) 0 (Weak.slots ?_) ?_ fun n hn => ?_
  · simp [go_sem, smT]
  · simp
  rcases Int.lt_or_le (n : Int) l.length with hc | hc
  · have hj : n < l.length := by omega
    obtain ⟨i, off, c, b, rfl, hat⟩ := h.row (by omega)
    have hr1 := smT_range hr n
    have hr2 := hr _ (List.getElem_mem hj)
    have hll := hat.len (by rw [flat_i64.flen]; omega)
    rw [flat_i64.flen] at hll
    have e3 : smT l (n + 1) = smT l n + l[n] := by rw [smT, get_i hj]
    repeat (first | (simp only [go_sem, Int.reduceLT, Int.reduceLE, Int.reduceEq, Int.reduceToNat, hL, hc, hat.get, hat.live, hat.i64 hj]) | ((with_reducible refine And.intro ?_ ?_); omega) )
    refine EK_again (n + 1) ?_ (by omega) (by omega)
    rw [e3]
    exact Weak.slots (by simp [go_sem])
  · have : n = l.length := by omega
    subst this
    repeat ((simp only [go_sem, Int.reduceLT, Int.reduceLE, Int.reduceEq, Int.reduceToNat, hL, Int.not_lt.2 hc]) )
    refine ret_same hq _ (.inl rfl) ?_
    simp [go_sem]
theorem l04All {H : List Blk} {v : V} {l : List (Nat → Int)} (h : Rd H v (rowL .u16 12) l) (h12 : ∀ f ∈ l, F12 f) (hl : l.length ≤ 1000000) :
    Cal Tryz.prog 60 [v] H fun u H' => u = .v (.int .i64 (allJ l)) ∧ H' = H := by
  have hsol := h.solid
  have hlen := jl_len l (l.length - 1)
  refine cal_fn 5 mixed Tryz.func60 Tryz.ntmps60 Tryz.results60 rfl rfl rfl fun hw cx hx hq => ?_
  repeat (first | (simp only [go_sem, Int.reduceLT, Int.reduceLE, Int.reduceEq, Int.reduceToNat, hsol]) | ((with_reducible refine isSK ?_); first | refine call_ret (l02Jumps h h12 hl) ?_ ?_ | refine call_ret (l02Sum (l := jl l (l.length - 1)) (Rd.own0 rfl rfl rfl) jl_range (by omega)) ?_ ?_) )
  refine ret_cut hq hw _ (.inl rfl) ?_
  simp [go_sem, allJ, hlen]
theorem allJumps {H : List Blk} {v : V} {l : List (Nat → Int)} (h : Rd H v (rowL .u16 12) l) (h12 : ∀ f ∈ l, F12 f) (hl : l.length ≤ 1000000) :
    Cal Tryz.prog 42 [v] H fun u H' => u = .v (.int .i64 (allJ l)) ∧ H' = H := by
  have hsol := h.solid
  have hlen := jl_len l (l.length - 1)
  refine cal_fn 17 mixed Tryz.func42 Tryz.ntmps42 Tryz.results42 rfl rfl rfl fun hw cx hx hq => ?_
  repeat (first | (simp only [go_sem, Int.reduceLT, Int.reduceLE, Int.reduceEq, Int.reduceToNat, hsol]) | ((with_reducible refine isSK ?_); refine call_ret (jumps h h12 hl) ?_ ?_) )
  refine WK_for (fun n : Nat => ⟨[.any, .any, .any, .v (.int .i64 (smT (jl l (l.length - 1)) n)), .any, .any, .any, .s H.length 0 (jl l (l.length - 1)).length (.u 0), .v (.int .i64 (jl l (l.length - 1)).length), .v (.int .i64 n)] ++ junk 8, H ++ [⟨(jl l (l.length - 1)).flatMap i64C, 2, .own 1⟩]⟩) (fun n => n ≤ l.length - 1) (fun n => l.length - n) 0 (Weak.slots ?_) ?_ fun n hn => ?_
  · simp [go_sem, smT]
  · simp
  have hr1 := smT_range (l := jl l (l.length - 1)) jl_range n
  rcases Int.lt_or_le (n : Int) (jl l (l.length - 1)).length with hc | hc
  · have hj : n < (jl l (l.length - 1)).length := by omega
    have hr2 := jl_range (l := l) (n := l.length - 1) _ (List.getElem_mem hj)
    have hl2 : ((jl l (l.length - 1)).flatMap i64C).length = (jl l (l.length - 1)).length := by rw [flat_i64.flen, Nat.mul_one]
    have hcel := (At.mk0 (H := H) (L := []) (cs := (jl l (l.length - 1)).flatMap i64C) (t := 2) (k := .own 1) rfl).i64 hj
    simp only [Nat.zero_add] at hcel
    have e3 : smT (jl l (l.length - 1)) (n + 1) = smT (jl l (l.length - 1)) n + (jl l (l.length - 1))[n] := by rw [smT, get_i hj]
    repeat (first | (simp only [go_sem, Int.reduceLT, Int.reduceLE, Int.reduceEq, Int.reduceToNat, hc, hcel, hl2]) | ((with_reducible refine And.intro ?_ ?_); omega) )
    refine EK_again (n + 1) ?_ (by omega) (by omega)
    rw [e3]
    exact Weak.slots (by simp [go_sem])
  · have : n = l.length - 1 := by omega
    subst this
    repeat ((simp only [go_sem, Int.reduceLT, Int.reduceLE, Int.reduceEq, Int.reduceToNat, Int.not_lt.2 hc]) )
    refine ret_cut hq hw _ (.inl rfl) ?_
    simp [go_sem, allJ]
end Go.Proofs.YtaekjojblkhfdaaGreatDoor
namespace Go.Proofs.YtaekjojblkhfdaaGreatDoor
open Go Go.Sx
theorem l00Max {H : List Blk} {a b : Int} : Cal Tryz.prog 56 [.v (.int .i64 a), .v (.int .i64 b)] H fun u H' => u = .v (.int .i64 (max a b)) ∧ H' = H := by
  refine cal_fn 8 mixed Tryz.func56 Tryz.ntmps56 Tryz.results56 rfl rfl rfl fun hw cx hx hq => ?_
  by_cases e : b < a
  · repeat ((simp only [go_sem, Int.reduceLT, Int.reduceLE, Int.reduceEq, Int.reduceToNat, e]) )
    refine ret_same hq _ (.inl rfl) ?_
    simp [go_sem]; omega
  · repeat ((simp only [go_sem, Int.reduceLT, Int.reduceLE, Int.reduceEq, Int.reduceToNat, e]) )
    refine ret_same hq _ (.inl rfl) ?_
    simp [go_sem]; omega
theorem slicesIndex {H : List Blk} {v : V} {l : List Int} {x : Int} (h : Rd H v i64C l) (hl : l.length ≤ 1000000) :
    Cal Tryz.prog 95 [v, .v (.int .i64 x)] H fun u H' => u = .v (.int .i64 (idxL (fun y => decide (y = x)) l)) ∧ H' = H := by
  have hsol := h.solid
  have hL := h.lenV (P := Tryz.prog) slTy27
  refine cal_fn 17 mixed Tryz.func95 Tryz.ntmps95 Tryz.results95 rfl rfl rfl fun hw cx hx hq => ?_
  repeat ((simp only [go_sem, Int.reduceLT, Int.reduceLE, Int.reduceEq, Int.reduceToNat, hsol, hL]) )
  refine WK_for (fun n : Nat => ⟨[v, .v (.int .i64 x), .any, .any, .any, .any, .any, .v (.int .i64 l.length), .v (.int .i64 n)] ++ junk 10, H⟩) (fun n => n ≤ l.length ∧ ∀ j (hj : j < l.length), j < n → decide (l[j] = x) = false) (fun n => l.length - n) 0 (Weak.slots ?_) ?_ fun n hn => ?_
  · simp [go_sem]
  · simp
  rcases Int.lt_or_le (n : Int) l.length with hc | hc
  · have hj : n < l.length := by omega
    obtain ⟨i, off, c, b, rfl, hat⟩ := h.row (by omega)
    have hll := hat.len (by rw [flat_i64.flen]; omega)
    rw [flat_i64.flen] at hll
    have hz := hat.i64 hj
    by_cases e : l[n] = x
    · have e1 : (x = l[n]) = True := eq_true e.symm
      repeat (first | (simp only [go_sem, Int.reduceLT, Int.reduceLE, Int.reduceEq, Int.reduceToNat, hc, hat.get, hat.live, hz, e1]) | ((with_reducible refine And.intro ?_ ?_); omega) )
      refine ret_same hq _ (.inl rfl) ?_
      rw [idxL_at hj (decide_eq_true e) hn.2]
      simp [go_sem]
    · have e1 : (x = l[n]) = False := eq_false fun h => e h.symm
      repeat (first | (simp only [go_sem, Int.reduceLT, Int.reduceLE, Int.reduceEq, Int.reduceToNat, hc, hat.get, hat.live, hz, e1]) | ((with_reducible refine And.intro ?_ ?_); omega) )
      refine EK_again (n + 1) (Weak.slots (by simp [go_sem])) ⟨by omega, fun j hj2 hj3 => ?_⟩ (by omega)
      by_cases e2 : j = n
      · subst e2; exact e 
      · exact of_decide_eq_false (hn.2 j hj2 (by omega))
  · repeat ((simp only [go_sem, Int.reduceLT, Int.reduceLE, Int.reduceEq, Int.reduceToNat, Int.not_lt.2 hc]) )
    refine ret_same hq _ (.inl rfl) ?_
    rw [idxL_none fun j hj => hn.2 j hj (by omega)]
    simp [go_sem]
theorem slicesContains {H : List Blk} {v : V} {l : List Int} {x : Int} (h : Rd H v i64C l) (hl : l.length ≤ 1000000) :
    Cal Tryz.prog 69 [v, .v (.int .i64 x)] H fun u H' => u = .v (.bool (l.any fun y => decide (y = x))) ∧ H' = H := by
  have hsol := h.solid
  refine cal_fn 7 mixed Tryz.func69 Tryz.ntmps69 Tryz.results69 rfl rfl rfl fun hw cx hx hq => ?_
  repeat (first | (simp only [go_sem, Int.reduceLT, Int.reduceLE, Int.reduceEq, Int.reduceToNat, hsol, idxL_nonneg]) | ((with_reducible refine isSK ?_); refine call_ret (slicesIndex h hl) ?_ ?_) )
  refine ret_same hq _ (.inl rfl) ?_
  simp [go_sem]
end Go.Proofs.YtaekjojblkhfdaaGreatDoor
namespace Go.Proofs.YtaekjojblkhfdaaGreatDoor
open Go Go.Sx
def hasI (o : List Int) (k : Int) : Bool := o.any fun y => decide (y = k)
theorem hasI_iff {o : List Int} {k : Int} : hasI o k = true ↔ k ∈ o := by
  unfold hasI; simp only [List.any_eq_true, decide_eq_true_eq]
  constructor
  · rintro ⟨y, h, rfl⟩; exact h
  · intro h; exact ⟨k, h, rfl⟩
theorem slicesHas {H : List Blk} {v : V} {l : List Int} {x : Int} (h : Rd H v i64C l) (hl : l.length ≤ 1000000) :
    Cal Tryz.prog 69 [v, .v (.int .i64 x)] H fun u H' => u = .v (.bool (hasI l x)) ∧ H' = H := slicesContains h hl
theorem l00Has {H : List Blk} {v : V} {l : List Int} {x : Int} (h : Rd H v i64C l) (hl : l.length ≤ 1000000) :
    Cal Tryz.prog 71 [v, .v (.int .i64 x)] H fun u H' => u = .v (.bool (hasI l x)) ∧ H' = H := by
  have hsol := h.solid
  have hL := h.lenV (P := Tryz.prog) slTy27
  refine cal_fn 16 mixed Tryz.func71 Tryz.ntmps71 Tryz.results71 rfl rfl rfl fun hw cx hx hq => ?_
  repeat ((simp only [go_sem, Int.reduceLT, Int.reduceLE, Int.reduceEq, Int.reduceToNat, hsol]) )
  refine WK_for (fun n : Nat => ⟨[v, .v (.int .i64 x), .any, .any, .any, .v (.int .i64 n)] ++ junk 12, H⟩) (fun n => n ≤ l.length ∧ ∀ j (hj : j < l.length), j < n → l[j] ≠ x) (fun n => l.length - n) 0 (Weak.slots ?_) ?_ fun n hn => ?_
  · simp [go_sem]
  · simp
  rcases Int.lt_or_le (n : Int) l.length with hc | hc
  · have hj : n < l.length := by omega
    obtain ⟨i, off, c, b, rfl, hat⟩ := h.row (by omega)
    have hll := hat.len (by rw [flat_i64.flen]; omega)
    rw [flat_i64.flen] at hll
    have hz := hat.i64 hj
    by_cases e : l[n] = x
    · have e1 : (l[n] = x) = True := eq_true e
      have e2 : hasI l x = true := hasI_iff.2 (e ▸ List.getElem_mem hj)
      repeat (first | (simp only [go_sem, Int.reduceLT, Int.reduceLE, Int.reduceEq, Int.reduceToNat, hL, hc, hat.get, hat.live, hz, e1]) | ((with_reducible refine And.intro ?_ ?_); omega) )
      refine ret_same hq _ (.inl rfl) ?_
      simp [go_sem, e2]
    · have e1 : (l[n] = x) = False := eq_false e
      repeat (first | (simp only [go_sem, Int.reduceLT, Int.reduceLE, Int.reduceEq, Int.reduceToNat, hL, hc, hat.get, hat.live, hz, e1]) | ((with_reducible refine And.intro ?_ ?_); omega) )
      refine EK_again (n + 1) (Weak.slots (by simp [go_sem])) ⟨by omega, fun j hj2 hj3 => ?_⟩ (by omega)
      by_cases e2 : j = n
      · subst e2; exact e
      · exact hn.2 j hj2 (by omega)
  · have e2 : hasI l x = false := by
      rw [Bool.eq_false_iff]; intro h2
      obtain ⟨j, hj, e⟩ := List.mem_iff_getElem.1 (hasI_iff.1 h2)
      exact hn.2 j hj (by omega) e
    repeat ((simp only [go_sem, Int.reduceLT, Int.reduceLE, Int.reduceEq, Int.reduceToNat, hL, Int.not_lt.2 hc]) )
    refine ret_same hq _ (.inl rfl) ?_
    simp [go_sem, e2]
def inO (l : List (Nat → Int)) (o : List Int) : List (Nat → Int) := o.map fun k => pg l k.toNat
theorem inO_len (l : List (Nat → Int)) (o : List Int) : (inO l o).length = o.length := by simp [inO]
theorem inO_12 {l : List (Nat → Int)} (h : ∀ f ∈ l, F12 f) (o : List Int) : ∀ f ∈ inO l o, F12 f := fun f hf => by
  unfold inO at hf
  obtain ⟨k, _, rfl⟩ := List.mem_map.1 hf
  exact pg_12 h _
theorem inO_succ {l : List (Nat → Int)} {o : List Int} {n : Nat} (h : n < o.length) : inO l (o.take (n + 1)) = inO l (o.take n) ++ [pg l (o[n]).toNat] := by
  unfold inO; rw [List.take_succ_eq_append_getElem h, List.map_append]; rfl
def okI (l : List (Nat → Int)) (o : List Int) : Prop := ∀ k ∈ o, 0 ≤ k ∧ k < l.length
theorem inOrder {H : List Blk} {v w : V} {l : List (Nat → Int)} {o : List Int} (h : Rd H v (rowL .u16 12) l) (h2 : Rd H w i64C o) (ho : okI l o) (hl : o.length ≤ 1000000) :
    Cal Tryz.prog 41 [v, w] H fun u H' => u = .s H.length 0 (inO l o).length (.u 0) ∧ H' = H ++ [⟨(inO l o).flatMap (rowL .u16 12), 50, .own 12⟩] := by
  have hsol := h.solid
  have hsol2 := h2.solid
  have hL2 := h2.lenV (P := Tryz.prog) slTy27
  refine cal_fn 22 mixed Tryz.func41 Tryz.ntmps41 Tryz.results41 rfl rfl rfl fun hw cx hx hq => ?_
  repeat ((simp only [go_sem, Int.reduceLT, Int.reduceLE, Int.reduceEq, Int.reduceToNat, hsol, hsol2, hL2]) )
  refine WK_for (fun n : Nat => ⟨[v, .any, .any, .any, .any, .s H.length 0 (inO l (o.take n)).length (.u 0), .any, .any, .any, w, .v (.int .i64 o.length), .v (.int .i64 n)] ++ junk 12, H ++ [⟨(inO l (o.take n)).flatMap (rowL .u16 12), 50, .own 12⟩]⟩) (fun n => n ≤ o.length) (fun n => o.length - n) 0 (Weak.slots ?_) ?_ fun n hn => ?_
  · simp [go_sem, inO]
  · simp
  rcases Int.lt_or_le (n : Int) o.length with hc | hc
  · have hj : n < o.length := by omega
    have hk := ho _ (List.getElem_mem hj)
    obtain ⟨i, off, c, b, rfl, hat⟩ := h.row (by omega)
    obtain ⟨i2, off2, c2, b2, rfl, hat2⟩ := h2.row (by omega)
    have hil := hat.lt
    have hil2 := hat2.lt
    have hll := hat2.len (by rw [flat_i64.flen]; omega)
    rw [flat_i64.flen] at hll
    have hz := hat2.i64 hj
    have e3 := inO_succ (l := l) hj
    generalize o[n] = x at hk hz e3
    have a0 := hat.elem (rowL .u16 12) 12 hz12 (show x.toNat < l.length by omega)
    have f0 := hat.fits (rowL .u16 12) 12 hz12 (show x.toNat < l.length by omega) (by omega)
    rw [← pg_at] at a0
    have hn1 : norefH H.length H := norefH_wf hw (Nat.le_refl _)
    have hn2 : norefs H.length ((inO l (o.take n)).flatMap (rowL .u16 12)) = true := (flat_rowL .u16 12).norefs _ _
    have hl2 : ((inO l (o.take n)).flatMap (rowL .u16 12)).length = (inO l (o.take n)).length * 12 := by rw [(flat_rowL .u16 12).flen]
    have hle : (inO l (o.take n)).length = n := by rw [inO_len, List.length_take]; omega
    have hij : (i = H.length) = False := eq_false (by omega)
    have hij2 : (i2 = H.length) = False := eq_false (by omega)
    have hd1 : (H.length + 1 = H.length) = False := eq_false (by omega)
    repeat (first | (simp only [go_sem, Int.reduceLT, Int.reduceLE, Int.reduceEq, Int.reduceToNat, hc, (get_app hat.get), hat.live, (get_app hat2.get), hat2.live, a0, hz, hn1, hn2, hl2, hij, hij2, hd1, hx, rowL_rep]) | ((with_reducible refine And.intro ?_ ?_); omega) )
    refine EK_again (n + 1) ?_ (by omega) (by omega)
    rw [e3, flat_snoc]
    exact Weak.keepN rfl (by simp [go_sem] <;> omega) (by simp [hx]) (by simp [go_sem, hil, hil2, (flat_rowL .u16 12).lts] <;> omega) (hw.app (by simp [go_sem, hil, hil2, (flat_rowL .u16 12).lts] <;> omega))
  · have : n = o.length := by omega
    subst this
    rw [List.take_length]
    repeat ((simp only [go_sem, Int.reduceLT, Int.reduceLE, Int.reduceEq, Int.reduceToNat, Int.not_lt.2 hc]) )
    refine ret_at hq _ (.inl rfl) (by simp) ?_
    simp [go_sem]
theorem l04Pages {H : List Blk} {v w : V} {l : List (Nat → Int)} {o : List Int} (h : Rd H v (rowL .u16 12) l) (h2 : Rd H w i64C o) (ho : okI l o) (hl : o.length ≤ 1000000) :
    Cal Tryz.prog 62 [v, w] H fun u H' => u = .s H.length 0 (inO l o).length (.u 0) ∧ H' = H ++ [⟨(inO l o).flatMap (rowL .u16 12), 50, .own 12⟩] := by
  have hsol := h.solid
  have hsol2 := h2.solid
  have hL2 := h2.lenV (P := Tryz.prog) slTy27
  refine cal_fn 23 mixed Tryz.func62 Tryz.ntmps62 Tryz.results62 rfl rfl rfl fun hw cx hx hq => ?_
  repeat ((simp only [go_sem, Int.reduceLT, Int.reduceLE, Int.reduceEq, Int.reduceToNat, hsol, hsol2]) )
  refine WK_for (fun n : Nat => ⟨[v, w, .any, .any, .any, .s H.length 0 (inO l (o.take n)).length (.u 0), .v (.int .i64 n)] ++ junk 18, H ++ [⟨(inO l (o.take n)).flatMap (rowL .u16 12), 50, .own 12⟩]⟩) (fun n => n ≤ o.length) (fun n => o.length - n) 0 (Weak.slots ?_) ?_ fun n hn => ?_
  · simp [go_sem, inO]
  · simp
  rcases Int.lt_or_le (n : Int) o.length with hc | hc
  · have hj : n < o.length := by omega
    have hk := ho _ (List.getElem_mem hj)
    obtain ⟨i, off, c, b, rfl, hat⟩ := h.row (by omega)
    obtain ⟨i2, off2, c2, b2, rfl, hat2⟩ := h2.row (by omega)
    have hil := hat.lt
    have hil2 := hat2.lt
    have hll := hat2.len (by rw [flat_i64.flen]; omega)
    rw [flat_i64.flen] at hll
    have hz := hat2.i64 hj
    have e3 := inO_succ (l := l) hj
    generalize o[n] = x at hk hz e3
    have a0 := hat.elem (rowL .u16 12) 12 hz12 (show x.toNat < l.length by omega)
    have f0 := hat.fits (rowL .u16 12) 12 hz12 (show x.toNat < l.length by omega) (by omega)
    rw [← pg_at] at a0
    have hn1 : norefH H.length H := norefH_wf hw (Nat.le_refl _)
    have hn2 : norefs H.length ((inO l (o.take n)).flatMap (rowL .u16 12)) = true := (flat_rowL .u16 12).norefs _ _
    have hl2 : ((inO l (o.take n)).flatMap (rowL .u16 12)).length = (inO l (o.take n)).length * 12 := by rw [(flat_rowL .u16 12).flen]
    have hle : (inO l (o.take n)).length = n := by rw [inO_len, List.length_take]; omega
    have hij : (i = H.length) = False := eq_false (by omega)
    have hij2 : (i2 = H.length) = False := eq_false (by omega)
    have hd1 : (H.length + 1 = H.length) = False := eq_false (by omega)
    repeat (first | (simp only [go_sem, Int.reduceLT, Int.reduceLE, Int.reduceEq, Int.reduceToNat, hL2, hc, (get_app hat.get), hat.live, (get_app hat2.get), hat2.live, a0, hz, hn1, hn2, hl2, hij, hij2, hd1, hx, rowL_rep]) | ((with_reducible refine And.intro ?_ ?_); omega) )
    refine EK_again (n + 1) ?_ (by omega) (by omega)
    rw [e3, flat_snoc]
    exact Weak.keepN rfl (by simp [go_sem] <;> omega) (by simp [hx]) (by simp [go_sem, hil, hil2, (flat_rowL .u16 12).lts] <;> omega) (hw.app (by simp [go_sem, hil, hil2, (flat_rowL .u16 12).lts] <;> omega))
  · have : n = o.length := by omega
    subst this
    rw [List.take_length]
    repeat ((simp only [go_sem, Int.reduceLT, Int.reduceLE, Int.reduceEq, Int.reduceToNat, hL2, Int.not_lt.2 hc]) )
    refine ret_at hq _ (.inl rfl) (by simp) ?_
    simp [go_sem]
end Go.Proofs.YtaekjojblkhfdaaGreatDoor
namespace Go.Proofs.YtaekjojblkhfdaaGreatDoor
open Go Go.Sx
theorem jumpF_sym (f g : Nat → Int) : jumpF f g = jumpF g f := by
  unfold jumpF
  have : xorF f g = xorF g f := by
    funext j
    unfold xorF
    show IntKind.u16.wrap ((BitVec.ofInt 16 (f j) ^^^ BitVec.ofInt 16 (g j)).toNat : Int) = IntKind.u16.wrap ((BitVec.ofInt 16 (g j) ^^^ BitVec.ofInt 16 (f j)).toNat : Int)
    rw [BitVec.xor_comm]
  rw [this]
def psL : List (Nat → Int) → Int
  | [] => 0
  | a :: r => (match r with | [] => 0 | b :: _ => jumpF a b) + psL r
def brO : Option (Nat → Int) → Option (Nat → Int) → Int
  | some a, some b => jumpF a b
  | _, _ => 0
theorem brO_sym (x y : Option (Nat → Int)) : brO x y = brO y x := by
  cases x <;> cases y <;> simp [brO]
  exact jumpF_sym _ _
theorem psL_cons (a : Nat → Int) (r : List (Nat → Int)) : psL (a :: r) = brO (some a) r.head? + psL r := by
  cases r <;> rfl
theorem psL_app : ∀ A B : List (Nat → Int), psL (A ++ B) = psL A + brO A.getLast? B.head? + psL B
  | [], B => by simp [psL, brO]
  | a :: A, B => by
    have ih := psL_app A B
    rw [List.cons_append, psL_cons, psL_cons, ih]
    cases A with
    | nil => simp [psL, brO]
    | cons b A =>
      have e1 : (b :: A ++ B).head? = (b :: A).head? := rfl
      have e2 : (a :: b :: A).getLast? = (b :: A).getLast? := by simp [List.getLast?_cons_cons]
      rw [e1, e2]; omega
theorem psL_rev : ∀ A : List (Nat → Int), psL A.reverse = psL A
  | [] => rfl
  | a :: A => by
    rw [List.reverse_cons, psL_app, psL_rev A, psL_cons, List.getLast?_reverse]
    have : brO A.head? [a].head? = brO (some a) A.head? := by rw [brO_sym]; rfl
    rw [this]
    have h0 : brO (some a) ([] : List (Nat → Int)).head? + psL [] = 0 := rfl
    rw [h0, psL_cons a A]; omega
theorem psL_mid (A S C : List (Nat → Int)) (hS : S ≠ []) : psL (A ++ (S ++ C)) = psL A + brO A.getLast? S.head? + psL S + brO S.getLast? C.head? + psL C := by
  rw [psL_app, psL_app]
  have : (S ++ C).head? = S.head? := by cases S with | nil => exact absurd rfl hS | cons a S => rfl
  rw [this]; omega
theorem psL_turn (A S C : List (Nat → Int)) (hS : S ≠ []) : psL (A ++ (S.reverse ++ C)) = psL (A ++ (S ++ C)) - (brO A.getLast? S.head? + brO S.getLast? C.head? - (brO A.getLast? S.getLast? + brO S.head? C.head?)) := by
  rw [psL_mid A S C hS, psL_mid A S.reverse C (by simpa using hS), psL_rev, List.head?_reverse, List.getLast?_reverse]
  omega
theorem smT_cons (x : Int) (l : List Int) : ∀ n, smT (x :: l) (n + 1) = x + smT l n
  | 0 => by simp [smT]
  | n + 1 => by
    have ih := smT_cons x l n
    rw [smT, ih, smT]
    simp; omega
theorem allJ_psL : ∀ L : List (Nat → Int), allJ L = psL L
  | [] => rfl
  | [a] => rfl
  | a :: b :: L => by
    have ih := allJ_psL (b :: L)
    rw [psL_cons, ← ih]
    unfold allJ
    have e1 : (a :: b :: L).length - 1 = L.length + 1 := by simp
    have e2 : (b :: L).length - 1 = L.length := by simp
    rw [e1, e2]
    have e3 : jl (a :: b :: L) (L.length + 1) = jumpF a b :: jl (b :: L) L.length := by
      unfold jl
      rw [List.range_succ_eq_map, List.map_cons, List.map_map]
      congr 1
    rw [e3, smT_cons]; rfl
def btw (L : List (Nat → Int)) (i k : Int) : Int := if i < 0 ∨ (L.length : Int) ≤ k then 0 else jumpF (pg L i.toNat) (pg L k.toNat)
def gainL (L : List (Nat → Int)) (i k : Nat) : Int := btw L ((i : Int) - 1) i + btw L k ((k : Int) + 1) - (btw L ((i : Int) - 1) k + btw L i ((k : Int) + 1))
theorem brO_btw {L : List (Nat → Int)} {i k : Int} (hi : i < L.length) (hk : 0 ≤ k) : brO (if i < 0 then none else L[i.toNat]?) L[k.toNat]? = btw L i k := by
  unfold btw
  by_cases h1 : i < 0
  · rw [if_pos h1, if_pos (.inl h1)]; rfl
  · rw [if_neg h1, List.getElem?_eq_getElem (by omega)]
    by_cases h2 : (L.length : Int) ≤ k
    · rw [if_pos (.inr h2), List.getElem?_eq_none (by omega)]; rfl
    · rw [if_neg (by omega), List.getElem?_eq_getElem (by omega), pg_at (show i.toNat < L.length by omega), pg_at (show k.toNat < L.length by omega)]; rfl
theorem take_last {L : List (Nat → Int)} {i : Nat} (hi : i ≤ L.length) : (L.take i).getLast? = if (i : Int) - 1 < 0 then none else L[((i : Int) - 1).toNat]? := by
  cases i with
  | zero => rfl
  | succ i =>
    rw [if_neg (by omega), List.take_succ_eq_append_getElem (by omega), List.getLast?_concat, show ((i + 1 : Nat) : Int) - 1 = (i : Int) by omega, Int.toNat_natCast, List.getElem?_eq_getElem (by omega)]
theorem allJ_turn {L : List (Nat → Int)} {i k : Nat} (hik : i ≤ k) (hk : k < L.length) : allJ (turnL L i k) = allJ L - gainL L i k := by
  have hS : (L.drop i).take (k + 1 - i) ≠ [] := by
    intro e
    have := congrArg List.length e
    simp at this; omega
  have e : L = L.take i ++ ((L.drop i).take (k + 1 - i) ++ L.drop (k + 1)) := by
    have : L.drop (k + 1) = (L.drop i).drop (k + 1 - i) := by rw [List.drop_drop]; congr 1; omega
    rw [this, List.take_append_drop, List.take_append_drop]
  have h1 := psL_turn (L.take i) ((L.drop i).take (k + 1 - i)) (L.drop (k + 1)) hS
  rw [← e] at h1
  rw [allJ_psL, allJ_psL]
  have h2 : turnL L i k = L.take i ++ (((L.drop i).take (k + 1 - i)).reverse ++ L.drop (k + 1)) := rfl
  rw [h2, h1]
  have a1 := take_last (L := L) (i := i) (by omega)
  have a2 : ((L.drop i).take (k + 1 - i)).head? = L[((i : Nat) : Int).toNat]? := by
    rw [Int.toNat_natCast, List.head?_take, if_neg (by omega), List.head?_drop]
  have a3 : ((L.drop i).take (k + 1 - i)).getLast? = if ((k : Nat) : Int) < 0 then none else L[((k : Nat) : Int).toNat]? := by
    rw [if_neg (by omega), Int.toNat_natCast, List.getLast?_take, if_neg (by omega), List.getElem?_drop, show i + (k + 1 - i - 1) = k by omega, List.getElem?_eq_getElem hk]
    rfl
  have a4 : (L.drop (k + 1)).head? = L[((k : Int) + 1).toNat]? := by rw [List.head?_drop]; congr 1
  have b1 := brO_btw (L := L) (i := (i : Int) - 1) (k := (i : Int)) (by omega) (by omega)
  have b2 := brO_btw (L := L) (i := (k : Int)) (k := (k : Int) + 1) (by omega) (by omega)
  have b3 := brO_btw (L := L) (i := (i : Int) - 1) (k := (k : Int)) (by omega) (by omega)
  have b4 := brO_btw (L := L) (i := (i : Int)) (k := (k : Int) + 1) (by omega) (by omega)
  rw [a1, a2, a3, a4]
  unfold gainL
  rw [if_neg (show ¬ ((k : Int) < 0) by omega)] at b2 ⊢
  rw [if_neg (show ¬ ((i : Int) < 0) by omega)] at b4
  rw [b1, b2, b3, b4]
def stpG (L : List (Nat → Int)) (s : (Nat × Nat) × Int) (i k : Nat) : (Nat × Nat) × Int := if s.2 < gainL L i k then ((i, k), gainL L i k) else s
def selR (L : List (Nat → Int)) (s : (Nat × Nat) × Int) (i : Nat) : Nat → (Nat × Nat) × Int
  | 0 => s
  | c + 1 => stpG L (selR L s i c) i (i + c)
def selA (L : List (Nat → Int)) : Nat → (Nat × Nat) × Int
  | 0 => ((0, 0), 0)
  | i + 1 => selR L (selA L i) i (L.length - i)
theorem gain_same (L : List (Nat → Int)) (i : Nat) : gainL L i i = 0 := by unfold gainL; omega
def okSel (L : List (Nat → Int)) (s : (Nat × Nat) × Int) : Prop := 0 ≤ s.2 ∧ (0 < s.2 → s.1.1 ≤ s.1.2 ∧ s.1.2 < L.length ∧ s.2 = gainL L s.1.1 s.1.2)
theorem selR_ok {L : List (Nat → Int)} {s : (Nat × Nat) × Int} (h : okSel L s) (i : Nat) : ∀ c, i + c ≤ L.length → okSel L (selR L s i c)
  | 0, _ => h
  | c + 1, hc => by
    have ih := selR_ok h i c (by omega)
    unfold selR stpG
    split
    · rename_i hlt
      have := ih.1
      exact ⟨by show 0 ≤ gainL L i (i + c); omega, fun _ => ⟨by show i ≤ i + c; omega, by show i + c < L.length; omega, rfl⟩⟩
    · exact ih
theorem selA_ok {L : List (Nat → Int)} : ∀ i, i ≤ L.length → okSel L (selA L i)
  | 0, _ => ⟨Int.le_refl _, fun h => absurd h (Int.lt_irrefl _)⟩
  | i + 1, hi => selR_ok (selA_ok i (by omega)) i _ (by omega)
theorem btw_range (L : List (Nat → Int)) (i k : Int) : 0 ≤ btw L i k ∧ btw L i k ≤ 144 := by
  unfold btw
  split
  · omega
  · exact jumpF_le _ _
theorem gain_range (L : List (Nat → Int)) (i k : Nat) : -288 ≤ gainL L i k ∧ gainL L i k ≤ 288 := by
  have a := btw_range L ((i : Int) - 1) i
  have b := btw_range L k ((k : Int) + 1)
  have c := btw_range L ((i : Int) - 1) k
  have d := btw_range L i ((k : Int) + 1)
  unfold gainL; omega
def selO (l : List (Nat → Int)) (o : List Int) : (Nat × Nat) × Int := selA (inO l o) o.length
def nextO (l : List (Nat → Int)) (o : List Int) : List Int := turnL o (selO l o).1.1 (selO l o).1.2
theorem inO_turn (l : List (Nat → Int)) (o : List Int) (i k : Nat) : inO l (turnL o i k) = turnL (inO l o) i k := by
  unfold inO; rw [turnL_map]
theorem selO_ok (l : List (Nat → Int)) (o : List Int) : okSel (inO l o) (selO l o) := by
  unfold selO
  exact selA_ok _ (by rw [inO_len]; exact Nat.le_refl _)
theorem next_less {l : List (Nat → Int)} {o : List Int} (h : (selO l o).2 ≠ 0) : allJ (inO l (nextO l o)) = allJ (inO l o) - (selO l o).2 ∧ 0 < (selO l o).2 := by
  have hk := selO_ok l o
  have h0 : 0 < (selO l o).2 := by have := hk.1; omega
  obtain ⟨h1, h2, h3⟩ := hk.2 h0
  refine ⟨?_, h0⟩
  unfold nextO
  rw [inO_turn, allJ_turn h1 h2, ← h3]
def locN (l : List (Nat → Int)) : Nat → List Int → List Int
  | 0, o => o
  | n + 1, o => if (selO l o).2 = 0 then o else locN l n (nextO l o)
theorem locN_more {l : List (Nat → Int)} : ∀ (n m : Nat) (o : List Int), (allJ (inO l o)).toNat ≤ n → (allJ (inO l o)).toNat ≤ m → locN l n o = locN l m o
  | 0, m, o, h1, _ => by
    have h0 := (allJ_range (inO l o)).1
    cases m with
    | zero => rfl
    | succ m =>
      unfold locN
      by_cases e : (selO l o).2 = 0
      · rw [if_pos e]
      · have h2 := next_less e
        have h3 := (allJ_range (inO l (nextO l o))).1
        omega
  | n + 1, 0, o, _, h2 => by
    have h0 := (allJ_range (inO l o)).1
    unfold locN
    by_cases e : (selO l o).2 = 0
    · rw [if_pos e]
    · have h2 := next_less e
      have h3 := (allJ_range (inO l (nextO l o))).1
      omega
  | n + 1, m + 1, o, h1, h2 => by
    unfold locN
    by_cases e : (selO l o).2 = 0
    · rw [if_pos e, if_pos e]
    · have h4 := next_less e
      have h3 := (allJ_range (inO l (nextO l o))).1
      rw [if_neg e, if_neg e]
      exact locN_more n m _ (by omega) (by omega)
def locO (l : List (Nat → Int)) (o : List Int) : List Int := locN l (allJ (inO l o)).toNat o
theorem locO_end {l : List (Nat → Int)} {o : List Int} (h : (selO l o).2 = 0) : locO l o = o := by
  unfold locO
  cases (allJ (inO l o)).toNat with
  | zero => rfl
  | succ n => unfold locN; rw [if_pos h]
theorem locO_next {l : List (Nat → Int)} {o : List Int} (h : (selO l o).2 ≠ 0) : locO l o = locO l (nextO l o) := by
  have h2 := next_less h
  have h3 := (allJ_range (inO l (nextO l o))).1
  unfold locO
  obtain ⟨n, hn⟩ : ∃ n, (allJ (inO l o)).toNat = n + 1 := ⟨(allJ (inO l o)).toNat - 1, by omega⟩
  rw [hn]
  conv => lhs; unfold locN
  rw [if_neg h]
  exact locN_more _ _ _ (by omega) (by omega)
end Go.Proofs.YtaekjojblkhfdaaGreatDoor
namespace Go.Proofs.YtaekjojblkhfdaaGreatDoor
open Go Go.Sx
def plainL (n : Nat) : List Int := (List.range n).map fun j : Nat => (j : Int)
theorem plainL_len (n : Nat) : (plainL n).length = n := by simp [plainL]
theorem plainL_succ (n : Nat) : plainL (n + 1) = plainL n ++ [(n : Int)] := by unfold plainL; rw [List.range_succ, List.map_append]; rfl
theorem l04Plain {H : List Blk} {n : Nat} (hn : n ≤ 1000000) :
    Cal Tryz.prog 59 [.v (.int .i64 n)] H fun u H' => u = .s H.length 0 n (.u 0) ∧ H' = H ++ [⟨(plainL n).flatMap i64C, 2, .own 1⟩] := by
  refine cal_fn 15 mixed Tryz.func59 Tryz.ntmps59 Tryz.results59 rfl rfl rfl fun hw cx hx hq => ?_
  repeat ((simp only [go_sem, Int.reduceLT, Int.reduceLE, Int.reduceEq, Int.reduceToNat]) )
  refine WK_for (fun m : Nat => ⟨[.v (.int .i64 n), .any, .any, .s H.length 0 m (.u 0), .v (.int .i64 m)] ++ junk 11, H ++ [⟨(plainL m).flatMap i64C, 2, .own 1⟩]⟩) (fun m => m ≤ n) (fun m => n - m) 0 (Weak.slots ?_) ?_ fun m hm => ?_
  · simp [go_sem, plainL]
  · simp
  rcases Int.lt_or_le (m : Int) n with hc | hc
  · have hn1 : norefH H.length H := norefH_wf hw (Nat.le_refl _)
    have hn2 : norefs H.length ((plainL m).flatMap i64C) = true := flat_i64.norefs _ _
    have hl2 : ((plainL m).flatMap i64C).length = m := by rw [flat_i64.flen, Nat.mul_one, plainL_len]
    have hd1 : (H.length + 1 = H.length) = False := eq_false (by omega)
    repeat (first | (simp only [go_sem, Int.reduceLT, Int.reduceLE, Int.reduceEq, Int.reduceToNat, hc, hn1, hn2, hl2, hd1, hx]) | ((with_reducible refine And.intro ?_ ?_); omega) )
    refine EK_again (m + 1) ?_ (by omega) (by omega)
    rw [plainL_succ, flat_snoc]
    exact Weak.keepN rfl (by simp [go_sem] <;> omega) (by simp [hx]) (by simp [go_sem, flat_i64.lts, i64C] <;> omega) (hw.app (by simp [go_sem, flat_i64.lts, i64C] <;> omega))
  · have : m = n := by omega
    subst this
    repeat ((simp only [go_sem, Int.reduceLT, Int.reduceLE, Int.reduceEq, Int.reduceToNat, Int.not_lt.2 hc]) )
    refine ret_at hq _ (.inl rfl) (by simp) ?_
    simp [go_sem]
end Go.Proofs.YtaekjojblkhfdaaGreatDoor
