/- Contracts of functions of the translated program, by the walk. -/
import Derived.Test.YtjkkallcgplgmaaC6
import Derived.Test.YtjkkallcgplgmaaB5
set_option linter.unusedVariables false
set_option linter.unusedSimpArgs false
set_option maxRecDepth 8000
set_option maxHeartbeats 4000000
namespace Go.Proofs.Ytjkkallcgplgmaa
open Go Go.Sx
def jl (l : List (Nat → Int)) (n : Nat) : List Int := (List.range n).map fun k => jmp l k (k + 1)
theorem jl_len (l : List (Nat → Int)) (n : Nat) : (jl l n).length = n := by simp [jl]
theorem jl_succ (l : List (Nat → Int)) (n : Nat) : jl l (n + 1) = jl l n ++ [jmp l n (n + 1)] := by simp [jl, List.range_succ]
theorem jl_range {l : List (Nat → Int)} {n : Nat} : ∀ x ∈ jl l n, 0 ≤ x ∧ x ≤ 144 := fun x hx => by
  unfold jl at hx
  obtain ⟨k, _, rfl⟩ := List.mem_map.1 hx
  exact jmp_le l k (k + 1)
theorem flat_snoc {α : Type} (enc : α → List V) (l : List α) (a : α) : (l ++ [a]).flatMap enc = l.flatMap enc ++ enc a := by simp
theorem jumps {H : List Blk} {v : V} {l : List (Nat → Int)} (h : Rd H v (rowL .u16 12) l) (h12 : ∀ f ∈ l, F12 f) (hl : l.length ≤ 1000000) :
    Cal Try.prog 62 [v] H fun u H' => u = .s H.length 0 (jl l (l.length - 1)).length (.u 0) ∧ H' = H ++ [⟨(jl l (l.length - 1)).flatMap i64C, 2, .own 1⟩] := by
  have hsol := h.solid
  have hL := h.lenV (P := Try.prog) slTy27
  refine cal_fn 25 mixed Try.func62 Try.ntmps62 Try.results62 rfl rfl rfl fun hw cx hx hq => ?_
  repeat (first | (simp only [go_sem, Int.reduceLT, Int.reduceLE, Int.reduceEq, Int.reduceToNat, hsol]) | ((with_reducible refine And.intro ?_ ?_); omega) | ((with_reducible refine isWKr (id := 5) ?_); refine WK_drawUp 5 [[],[],[],[2],[1,2,3],[1,2,3,4],[],[],[6,7],[6,7,8],[1,2,3,4,5,6,7,8,9],[1,2,3,4,5,6,7,8,9,10],[0,1,2,3,4,5,6,7,8,9,10,11],[0,1,2,3,4,5,6,7,8,9,10,11,12]] 12 (by kernel_rfl) ?_; dsimp only [List.take, List.drop]) | ((with_reducible refine And.intro ?_ ?_); first | (with_reducible rfl) | assumption | (simp only [go_sem]; done)))
  refine WK_for (fun n : Nat => ⟨[v, .any, .any, .s H.length 0 (jl l n).length (.u 0), .v (.int .i64 ((n : Int) + 1))] ++ junk 21, H ++ [⟨(jl l n).flatMap i64C, 2, .own 1⟩]⟩) (fun n => n ≤ l.length - 1) (fun n => l.length - n) 0 (Weak.slots ?_) ?_ fun n hn => ?_
  · simp [go_sem, jl]
  · simp
  rcases Int.lt_or_le ((n : Int) + 1) l.length with hc | hc
  · obtain ⟨i, off, c, b, rfl, hat⟩ := h.row (by omega)
    have hil := hat.lt
    have a0 := hat.elem (rowL .u16 12) 12 hz12 (show n < l.length by omega)
    have a1 := hat.elem (rowL .u16 12) 12 hz12 (show n + 1 < l.length by omega)
    have f0 := hat.fits (rowL .u16 12) 12 hz12 (show n < l.length by omega) (by omega)
    have f1 := hat.fits (rowL .u16 12) 12 hz12 (show n + 1 < l.length by omega) (by omega)
    rw [← pg_at] at a0 a1
    have t0 : ((n : Int) + 1 - 1).toNat = n := by omega
    have t1 : ((n : Int) + 1).toNat = n + 1 := by omega
    have hn1 : norefH H.length H := norefH_wf hw (Nat.le_refl _)
    have hn2 : norefs H.length ((jl l n).flatMap i64C) = true := flat_i64.norefs _ _
    have hl2 : ((jl l n).flatMap i64C).length = (jl l n).length := by rw [flat_i64.flen, Nat.mul_one]
    have hle := jl_len l n
    have hij : (i = H.length) = False := eq_false (by omega)
    have hd1 : (H.length + 1 = H.length) = False := eq_false (by omega)
    have e3 := jl_succ l n
    repeat (first | (simp only [go_sem, Int.reduceLT, Int.reduceLE, Int.reduceEq, Int.reduceToNat, hL, hc, (get_app hat.get), hat.live, t0, t1, a0, a1, hn1, hn2, hl2, hij, hd1, hx]) | ((with_reducible refine And.intro ?_ ?_); omega) | ((with_reducible refine isSK ?_); first | (refine call_ret (jump (pg_12 h12 _) (pg_12 h12 _)) (by simp only [go_sem, Int.reduceLT, Int.reduceLE, Int.reduceEq, Int.reduceToNat, hL, hc, (get_app hat.get), hat.live, t0, t1, a0, a1, hn1, hn2, hl2, hij, hd1, hx]) ?_)) | ((with_reducible refine isMC ?_); first | (refine mcall_ret (jump (pg_12 h12 _) (pg_12 h12 _)) (by simp only [go_sem, Int.reduceLT, Int.reduceLE, Int.reduceEq, Int.reduceToNat, hL, hc, (get_app hat.get), hat.live, t0, t1, a0, a1, hn1, hn2, hl2, hij, hd1, hx]) (by simp only [go_sem, Int.reduceLT, Int.reduceLE, Int.reduceEq, Int.reduceToNat, hL, hc, (get_app hat.get), hat.live, t0, t1, a0, a1, hn1, hn2, hl2, hij, hd1, hx]) ?_)) | ((with_reducible refine isWKr (id := 5) ?_); refine WK_drawUp 5 [[],[],[],[2],[1,2,3],[1,2,3,4],[],[],[6,7],[6,7,8],[1,2,3,4,5,6,7,8,9],[1,2,3,4,5,6,7,8,9,10],[0,1,2,3,4,5,6,7,8,9,10,11],[0,1,2,3,4,5,6,7,8,9,10,11,12]] 12 (by kernel_rfl) ?_; dsimp only [List.take, List.drop]) | ((with_reducible refine And.intro ?_ ?_); first | (with_reducible rfl) | assumption | (simp only [go_sem]; done)))
    refine EK_again (n + 1) ?_ (by omega) (by omega)
    rw [e3, flat_snoc]
    exact Weak.keepN rfl (by simp [go_sem] <;> omega) (by simp [hx]) (by simp [go_sem, hil, flat_i64.lts, i64C, jmp] <;> omega) (hw.app (by simp [go_sem, hil, flat_i64.lts, i64C, jmp] <;> omega))
  · have : n = l.length - 1 := by omega
    subst this
    repeat (first | (simp only [go_sem, Int.reduceLT, Int.reduceLE, Int.reduceEq, Int.reduceToNat, hL, Int.not_lt.2 hc]) | ((with_reducible refine And.intro ?_ ?_); omega) | ((with_reducible refine isWKr (id := 5) ?_); refine WK_drawUp 5 [[],[],[],[2],[1,2,3],[1,2,3,4],[],[],[6,7],[6,7,8],[1,2,3,4,5,6,7,8,9],[1,2,3,4,5,6,7,8,9,10],[0,1,2,3,4,5,6,7,8,9,10,11],[0,1,2,3,4,5,6,7,8,9,10,11,12]] 12 (by kernel_rfl) ?_; dsimp only [List.take, List.drop]) | ((with_reducible refine And.intro ?_ ?_); first | (with_reducible rfl) | assumption | (simp only [go_sem]; done)))
    refine ret_at hq _ (.inl rfl) (by simp) ?_
    simp [go_sem]
theorem l02Jumps {H : List Blk} {v : V} {l : List (Nat → Int)} (h : Rd H v (rowL .u16 12) l) (h12 : ∀ f ∈ l, F12 f) (hl : l.length ≤ 1000000) :
    Cal Try.prog 57 [v] H fun u H' => u = .s H.length 0 (jl l (l.length - 1)).length (.u 0) ∧ H' = H ++ [⟨(jl l (l.length - 1)).flatMap i64C, 2, .own 1⟩] := by
  have hsol := h.solid
  have hL := h.lenV (P := Try.prog) slTy27
  refine cal_fn 23 mixed Try.func57 Try.ntmps57 Try.results57 rfl rfl rfl fun hw cx hx hq => ?_
  repeat (first | (simp only [go_sem, Int.reduceLT, Int.reduceLE, Int.reduceEq, Int.reduceToNat, hsol]) | ((with_reducible refine And.intro ?_ ?_); omega) | ((with_reducible refine isWKr (id := 5) ?_); refine WK_drawUp 5 [[],[],[],[2],[1,2,3],[],[],[5,6],[1,2,3,4,5,6,7],[1,2,3,4,5,6,7,8],[0,1,2,3,4,5,6,7,8,9],[0,1,2,3,4,5,6,7,8,9,10]] 10 (by kernel_rfl) ?_; dsimp only [List.take, List.drop]) | ((with_reducible refine And.intro ?_ ?_); first | (with_reducible rfl) | assumption | (simp only [go_sem]; done)))
  refine WK_for (fun n : Nat => ⟨[v, .any, .any, .s H.length 0 (jl l n).length (.u 0), .v (.int .i64 ((n : Int) + 1))] ++ junk 19, H ++ [⟨(jl l n).flatMap i64C, 2, .own 1⟩]⟩) (fun n => n ≤ l.length - 1) (fun n => l.length - n) 0 (Weak.slots ?_) ?_ fun n hn => ?_
  · simp [go_sem, jl]
  · simp
  rcases Int.lt_or_le ((n : Int) + 1) l.length with hc | hc
  · obtain ⟨i, off, c, b, rfl, hat⟩ := h.row (by omega)
    have hil := hat.lt
    have a0 := hat.el hz12 (show n < l.length by omega)
    have a1 := hat.el hz12 (show n + 1 < l.length by omega)
    rw [← pg_at] at a0 a1
    have t0 : ((n : Int) + 1 - 1).toNat = n := by omega
    have t1 : ((n : Int) + 1).toNat = n + 1 := by omega
    have hn1 : norefH H.length H := norefH_wf hw (Nat.le_refl _)
    have hn2 : norefs H.length ((jl l n).flatMap i64C) = true := flat_i64.norefs _ _
    have hl2 : ((jl l n).flatMap i64C).length = (jl l n).length := by rw [flat_i64.flen, Nat.mul_one]
    have hle := jl_len l n
    have hij : (i = H.length) = False := eq_false (by omega)
    have hd1 : (H.length + 1 = H.length) = False := eq_false (by omega)
    have e3 := jl_succ l n
    repeat (first | (simp only [go_sem, Int.reduceLT, Int.reduceLE, Int.reduceEq, Int.reduceToNat, hL, hc, t0, t1, hn1, hn2, hl2, hij, hd1, hx]) | ((with_reducible refine And.intro ?_ ?_); omega) | ((with_reducible refine isSK ?_); first | (refine call_ret (l01Differ a0.app a1.app (pg_12 h12 _) (pg_12 h12 _)) (by simp only [go_sem, Int.reduceLT, Int.reduceLE, Int.reduceEq, Int.reduceToNat, hL, hc, t0, t1, hn1, hn2, hl2, hij, hd1, hx]) ?_)) | ((with_reducible refine isMC ?_); first | (refine mcall_ret (l01Differ a0.app a1.app (pg_12 h12 _) (pg_12 h12 _)) (by simp only [go_sem, Int.reduceLT, Int.reduceLE, Int.reduceEq, Int.reduceToNat, hL, hc, t0, t1, hn1, hn2, hl2, hij, hd1, hx]) (by simp only [go_sem, Int.reduceLT, Int.reduceLE, Int.reduceEq, Int.reduceToNat, hL, hc, t0, t1, hn1, hn2, hl2, hij, hd1, hx]) ?_)) | ((with_reducible refine isWKr (id := 5) ?_); refine WK_drawUp 5 [[],[],[],[2],[1,2,3],[],[],[5,6],[1,2,3,4,5,6,7],[1,2,3,4,5,6,7,8],[0,1,2,3,4,5,6,7,8,9],[0,1,2,3,4,5,6,7,8,9,10]] 10 (by kernel_rfl) ?_; dsimp only [List.take, List.drop]) | ((with_reducible refine And.intro ?_ ?_); first | (with_reducible rfl) | assumption | (simp only [go_sem]; done)))
    refine EK_again (n + 1) ?_ (by omega) (by omega)
    rw [e3, flat_snoc]
    exact Weak.keepN rfl (by simp [go_sem] <;> omega) (by simp [hx]) (by simp [go_sem, hil, flat_i64.lts, i64C, jmp] <;> omega) (hw.app (by simp [go_sem, hil, flat_i64.lts, i64C, jmp] <;> omega))
  · have : n = l.length - 1 := by omega
    subst this
    repeat (first | (simp only [go_sem, Int.reduceLT, Int.reduceLE, Int.reduceEq, Int.reduceToNat, hL, Int.not_lt.2 hc]) | ((with_reducible refine And.intro ?_ ?_); omega) | ((with_reducible refine isWKr (id := 5) ?_); refine WK_drawUp 5 [[],[],[],[2],[1,2,3],[],[],[5,6],[1,2,3,4,5,6,7],[1,2,3,4,5,6,7,8],[0,1,2,3,4,5,6,7,8,9],[0,1,2,3,4,5,6,7,8,9,10]] 10 (by kernel_rfl) ?_; dsimp only [List.take, List.drop]) | ((with_reducible refine And.intro ?_ ?_); first | (with_reducible rfl) | assumption | (simp only [go_sem]; done)))
    refine ret_at hq _ (.inl rfl) (by simp) ?_
    simp [go_sem]
/-- The sum of the first numbers. -/
def smT (l : List Int) : Nat → Int
  | 0 => 0
  | n + 1 => smT l n + (l[n]?.getD 0)
theorem smT_range {l : List Int} (h : ∀ x ∈ l, 0 ≤ x ∧ x ≤ 144) : ∀ n, 0 ≤ smT l n ∧ smT l n ≤ 144 * n
  | 0 => by simp [smT]
  | n + 1 => by
    have ih := smT_range h n
    unfold smT
    cases e : l[n]? with
    | none => simp; omega
    | some x => have := h x (List.mem_of_getElem? e); simp; omega
def allJ (l : List (Nat → Int)) : Int := smT (jl l (l.length - 1)) (l.length - 1)
theorem allJ_range (l : List (Nat → Int)) : 0 ≤ allJ l ∧ allJ l ≤ 144 * (l.length - 1 : Nat) := smT_range jl_range _
theorem get_i {l : List Int} {n : Nat} (h : n < l.length) : l[n]?.getD 0 = l[n] := by rw [List.getElem?_eq_getElem h]; rfl
theorem l02Sum {H : List Blk} {v : V} {l : List Int} (h : Rd H v i64C l) (hr : ∀ x ∈ l, 0 ≤ x ∧ x ≤ 144) (hl : l.length ≤ 1000000) :
    Cal Try.prog 116 [v] H fun u H' => u = .v (.int .i64 (smT l l.length)) ∧ H' = H := by
  have hsol := h.solid
  have hL := h.lenV (P := Try.prog) slTy41
  refine cal_fn 17 mixed Try.func116 Try.ntmps116 Try.results116 rfl rfl rfl fun hw cx hx hq => ?_
  repeat (first | (simp only [go_sem, Int.reduceLT, Int.reduceLE, Int.reduceEq, Int.reduceToNat, hsol]) | ((with_reducible refine And.intro ?_ ?_); omega) | ((with_reducible refine And.intro ?_ ?_); first | (with_reducible rfl) | assumption | (simp only [go_sem]; done)))
  refine WK_for (fun n : Nat => ⟨[v, .any, .any, .v (.int .i64 (smT l n)), .v (.int .i64 n)] ++ junk 13, H⟩) (fun n => n ≤ l.length) (fun n => l.length - n) 0 (Weak.slots ?_) ?_ fun n hn => ?_
  · simp [go_sem, smT]
  · simp
  rcases Int.lt_or_le (n : Int) l.length with hc | hc
  · have hj : n < l.length := by omega
    obtain ⟨i, off, c, b, rfl, hat⟩ := h.row (by omega)
    have hr1 := smT_range hr n
    have hr2 := hr _ (List.getElem_mem hj)
    have hll := hat.len (by rw [flat_i64.flen]; omega)
    rw [flat_i64.flen] at hll
    have e3 : smT l (n + 1) = smT l n + l[n] := by rw [smT, get_i hj]
    repeat (first | (simp only [go_sem, Int.reduceLT, Int.reduceLE, Int.reduceEq, Int.reduceToNat, hL, hc, hat.get, hat.live, hat.i64 hj]) | ((with_reducible refine And.intro ?_ ?_); omega) | ((with_reducible refine And.intro ?_ ?_); first | (with_reducible rfl) | assumption | (simp only [go_sem]; done)))
    refine EK_again (n + 1) ?_ (by omega) (by omega)
    rw [e3]
    exact Weak.slots (by simp [go_sem])
  · have : n = l.length := by omega
    subst this
    repeat (first | (simp only [go_sem, Int.reduceLT, Int.reduceLE, Int.reduceEq, Int.reduceToNat, hL, Int.not_lt.2 hc]) | ((with_reducible refine And.intro ?_ ?_); omega) | ((with_reducible refine And.intro ?_ ?_); first | (with_reducible rfl) | assumption | (simp only [go_sem]; done)))
    refine ret_same hq _ (.inl rfl) ?_
    simp [go_sem]
theorem l04All {H : List Blk} {v : V} {l : List (Nat → Int)} (h : Rd H v (rowL .u16 12) l) (h12 : ∀ f ∈ l, F12 f) (hl : l.length ≤ 1000000) :
    Cal Try.prog 81 [v] H fun u H' => u = .v (.int .i64 (allJ l)) ∧ H' = H := by
  have hsol := h.solid
  have hlen := jl_len l (l.length - 1)
  refine cal_fn 5 mixed Try.func81 Try.ntmps81 Try.results81 rfl rfl rfl fun hw cx hx hq => ?_
  repeat (first | (simp only [go_sem, Int.reduceLT, Int.reduceLE, Int.reduceEq, Int.reduceToNat, hsol]) | ((with_reducible refine And.intro ?_ ?_); omega) | ((with_reducible refine isSK ?_); first | (refine call_ret (l02Jumps h h12 hl) (by simp only [go_sem, Int.reduceLT, Int.reduceLE, Int.reduceEq, Int.reduceToNat, hsol]) ?_) | (refine call_ret (l02Sum (l := jl l (l.length - 1)) (Rd.own0 rfl rfl rfl) jl_range (by omega)) (by simp only [go_sem, Int.reduceLT, Int.reduceLE, Int.reduceEq, Int.reduceToNat, hsol]) ?_)) | ((with_reducible refine isMC ?_); first | (refine mcall_ret (l02Jumps h h12 hl) (by simp only [go_sem, Int.reduceLT, Int.reduceLE, Int.reduceEq, Int.reduceToNat, hsol]) (by simp only [go_sem, Int.reduceLT, Int.reduceLE, Int.reduceEq, Int.reduceToNat, hsol]) ?_) | (refine mcall_ret (l02Sum (l := jl l (l.length - 1)) (Rd.own0 rfl rfl rfl) jl_range (by omega)) (by simp only [go_sem, Int.reduceLT, Int.reduceLE, Int.reduceEq, Int.reduceToNat, hsol]) (by simp only [go_sem, Int.reduceLT, Int.reduceLE, Int.reduceEq, Int.reduceToNat, hsol]) ?_)) | ((with_reducible refine And.intro ?_ ?_); first | (with_reducible rfl) | assumption | (simp only [go_sem]; done)))
  refine ret_cut hq hw _ (.inl rfl) ?_
  simp [go_sem, allJ, hlen]
theorem allJumps {H : List Blk} {v : V} {l : List (Nat → Int)} (h : Rd H v (rowL .u16 12) l) (h12 : ∀ f ∈ l, F12 f) (hl : l.length ≤ 1000000) :
    Cal Try.prog 84 [v] H fun u H' => u = .v (.int .i64 (allJ l)) ∧ H' = H := by
  have hsol := h.solid
  have hlen := jl_len l (l.length - 1)
  refine cal_fn 17 mixed Try.func84 Try.ntmps84 Try.results84 rfl rfl rfl fun hw cx hx hq => ?_
  repeat (first | (simp only [go_sem, Int.reduceLT, Int.reduceLE, Int.reduceEq, Int.reduceToNat, hsol]) | ((with_reducible refine And.intro ?_ ?_); omega) | ((with_reducible refine isSK ?_); first | (refine call_ret (jumps h h12 hl) (by simp only [go_sem, Int.reduceLT, Int.reduceLE, Int.reduceEq, Int.reduceToNat, hsol]) ?_)) | ((with_reducible refine isMC ?_); first | (refine mcall_ret (jumps h h12 hl) (by simp only [go_sem, Int.reduceLT, Int.reduceLE, Int.reduceEq, Int.reduceToNat, hsol]) (by simp only [go_sem, Int.reduceLT, Int.reduceLE, Int.reduceEq, Int.reduceToNat, hsol]) ?_)) | ((with_reducible refine And.intro ?_ ?_); first | (with_reducible rfl) | assumption | (simp only [go_sem]; done)))
  refine WK_for (fun n : Nat => ⟨[.any, .any, .any, .v (.int .i64 (smT (jl l (l.length - 1)) n)), .any, .any, .any, .s H.length 0 (jl l (l.length - 1)).length (.u 0), .v (.int .i64 (jl l (l.length - 1)).length), .v (.int .i64 n)] ++ junk 8, H ++ [⟨(jl l (l.length - 1)).flatMap i64C, 2, .own 1⟩]⟩) (fun n => n ≤ l.length - 1) (fun n => l.length - n) 0 (Weak.slots ?_) ?_ fun n hn => ?_
  · simp [go_sem, smT]
  · simp
  have hr1 := smT_range (l := jl l (l.length - 1)) jl_range n
  rcases Int.lt_or_le (n : Int) (jl l (l.length - 1)).length with hc | hc
  · have hj : n < (jl l (l.length - 1)).length := by omega
    have hr2 := jl_range (l := l) (n := l.length - 1) _ (List.getElem_mem hj)
    have hl2 : ((jl l (l.length - 1)).flatMap i64C).length = (jl l (l.length - 1)).length := by rw [flat_i64.flen, Nat.mul_one]
    have hcel := (At.mk0 (H := H) (L := []) (cs := (jl l (l.length - 1)).flatMap i64C) (t := 2) (k := .own 1) rfl).i64 hj
    simp only [Nat.zero_add] at hcel
    have e3 : smT (jl l (l.length - 1)) (n + 1) = smT (jl l (l.length - 1)) n + (jl l (l.length - 1))[n] := by rw [smT, get_i hj]
    repeat (first | (simp only [go_sem, Int.reduceLT, Int.reduceLE, Int.reduceEq, Int.reduceToNat, hc, hcel, hl2]) | ((with_reducible refine And.intro ?_ ?_); omega) | ((with_reducible refine And.intro ?_ ?_); first | (with_reducible rfl) | assumption | (simp only [go_sem]; done)))
    refine EK_again (n + 1) ?_ (by omega) (by omega)
    rw [e3]
    exact Weak.slots (by simp [go_sem])
  · have : n = l.length - 1 := by omega
    subst this
    repeat (first | (simp only [go_sem, Int.reduceLT, Int.reduceLE, Int.reduceEq, Int.reduceToNat, Int.not_lt.2 hc]) | ((with_reducible refine And.intro ?_ ?_); omega) | ((with_reducible refine And.intro ?_ ?_); first | (with_reducible rfl) | assumption | (simp only [go_sem]; done)))
    refine ret_cut hq hw _ (.inl rfl) ?_
    simp [go_sem, allJ]
end Go.Proofs.Ytjkkallcgplgmaa

