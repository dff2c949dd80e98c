/- Contracts of functions of the translated program, by the walk. -/
import Derived.Test.YtpginknbmmdmoaaUm1
import Derived.Test.YtpginknbmmdmoaaMx2
import Derived.Test.YtpginknbmmdmoaaDr3
set_option linter.unusedVariables false
set_option linter.unusedSimpArgs false
set_option maxRecDepth 8000
set_option maxHeartbeats 4000000
namespace Go.Proofs.Ytpginknbmmdmoaa
open Go Go.Sx
open Go.RowKit
theorem l00Same {H : List Blk} {v v2 : V} {l : List (Int)} (h : Rd H v i64C l) (h2 : Rd H v2 i64C l) (hl : l.length ≤ 1000000000) : Cal Try.prog 129 [v, v2] H fun u H' => u = .v (.bool true) ∧ H' = H := by
  have hsol := h.solid
  have hsol2 := h2.solid
  have hL := h.lenV (P := Try.prog) slTy63
  have hL2 := h2.lenV (P := Try.prog) slTy63
  refine cal_fn 24 mixed Try.func129 Try.ntmps129 Try.results129 rfl rfl rfl fun hw cx hx hq => ?_
  repeat (first | (simp only [go_sem, Int.reduceLT, Int.reduceLE, Int.reduceEq, Int.reduceToNat, hsol, hsol2, hL, hL2]) | ((with_reducible refine And.intro ?_ ?_); omega) | ((with_reducible refine isWKr (id := 6) ?_); refine WK_drawAt 6 [[],[],[0,1],[0,1,2],[],[],[4,5],[4,5,6],[0,1,2,3,4,5,6,7]] (by kernel_rfl) ?_) | ((with_reducible refine And.intro ?_ ?_); first | (with_reducible rfl) | assumption | (simp only [go_sem]; done)))
  refine WK_for (fun n : Nat => ⟨[v, v2, .any, .any, .any, .v (.int .i64 n)] ++ junk 20, H⟩) (fun n => n ≤ l.length) (fun n => l.length - n) 0 (Weak.slots ?_) ?_ fun n hn => ?_
  · simp [go_sem]
  · simp
  rcases Int.lt_or_le (n : Int) l.length with hc | hc
  · have hj : n < l.length := by omega
    obtain ⟨i, off, c, bl, rfl, hat⟩ := h.row (by omega)
    obtain ⟨i2, off2, c2, bl2, rfl, hat2⟩ := h2.row (by omega)
    have hfit := hat.fits i64C 1 (fun _ => rfl) hj (by omega)
    have hfit2 := hat2.fits i64C 1 (fun _ => rfl) hj (by omega)
    have e1 := hat.i64 hj
    have e2 := hat2.i64 hj
    repeat (first | (simp only [go_sem, Int.reduceLT, Int.reduceLE, Int.reduceEq, Int.reduceToNat, hL, hL2, hc, hat.lt, hat.get, hat.live, e1, hat2.lt, hat2.get, hat2.live, e2, allEq_self]) | ((with_reducible refine And.intro ?_ ?_); omega) | ((with_reducible refine isWKr (id := 6) ?_); refine WK_drawAt 6 [[],[],[0,1],[0,1,2],[],[],[4,5],[4,5,6],[0,1,2,3,4,5,6,7]] (by kernel_rfl) ?_) | ((with_reducible refine And.intro ?_ ?_); first | (with_reducible rfl) | assumption | (simp only [go_sem]; done)))
    refine EK_again (n + 1) (Weak.slots (by simp [go_sem])) (by omega) (by omega)
  · repeat (first | (simp only [go_sem, Int.reduceLT, Int.reduceLE, Int.reduceEq, Int.reduceToNat, hL, Int.not_lt.2 hc]) | ((with_reducible refine And.intro ?_ ?_); omega) | ((with_reducible refine isWKr (id := 6) ?_); refine WK_drawAt 6 [[],[],[0,1],[0,1,2],[],[],[4,5],[4,5,6],[0,1,2,3,4,5,6,7]] (by kernel_rfl) ?_) | ((with_reducible refine And.intro ?_ ?_); first | (with_reducible rfl) | assumption | (simp only [go_sem]; done)))
    refine ret_same hq _ (.inl rfl) ?_
    simp [go_sem]
theorem sameNumbers {H : List Blk} {v v2 : V} {l : List (Int)} (h : Rd H v i64C l) (h2 : Rd H v2 i64C l) (hl : l.length ≤ 1000000000) : Cal Try.prog 66 [v, v2] H fun u H' => u = .v (.bool true) ∧ H' = H := by
  have hsol := h.solid
  have hsol2 := h2.solid
  refine cal_fn 6 mixed Try.func66 Try.ntmps66 Try.results66 rfl rfl rfl fun hw cx hx hq => ?_
  repeat (first | (simp only [go_sem, Int.reduceLT, Int.reduceLE, Int.reduceEq, Int.reduceToNat, hsol, hsol2]) | ((with_reducible refine And.intro ?_ ?_); omega) | ((with_reducible refine isSK ?_); first | (refine call_ret (l00Same h h2 hl) (by simp only [go_sem, Int.reduceLT, Int.reduceLE, Int.reduceEq, Int.reduceToNat, hsol, hsol2]) ?_)) | ((with_reducible refine isMC ?_); first | (refine mcall_ret (l00Same h h2 hl) (by simp only [go_sem, Int.reduceLT, Int.reduceLE, Int.reduceEq, Int.reduceToNat, hsol, hsol2]) (by simp only [go_sem, Int.reduceLT, Int.reduceLE, Int.reduceEq, Int.reduceToNat, hsol, hsol2]) ?_)) | ((with_reducible refine And.intro ?_ ?_); first | (with_reducible rfl) | assumption | (simp only [go_sem]; done)))
  refine ret_same hq _ (.inl rfl) ?_
  simp [go_sem]
theorem l02Same {H : List Blk} {v v2 : V} {l : List (Nat → Int)} (h : Rd H v (rowL .u16 12) l) (h2 : Rd H v2 (rowL .u16 12) l) (hl : l.length ≤ 1000000000) : Cal Try.prog 124 [v, v2] H fun u H' => u = .v (.bool true) ∧ H' = H := by
  have hsol := h.solid
  have hsol2 := h2.solid
  have hL := h.lenV (P := Try.prog) slTy53
  have hL2 := h2.lenV (P := Try.prog) slTy53
  refine cal_fn 24 mixed Try.func124 Try.ntmps124 Try.results124 rfl rfl rfl fun hw cx hx hq => ?_
  repeat (first | (simp only [go_sem, Int.reduceLT, Int.reduceLE, Int.reduceEq, Int.reduceToNat, hsol, hsol2, hL, hL2]) | ((with_reducible refine And.intro ?_ ?_); omega) | ((with_reducible refine isWKr (id := 6) ?_); refine WK_drawAt 6 [[],[],[0,1],[0,1,2],[],[],[4,5],[4,5,6],[0,1,2,3,4,5,6,7]] (by kernel_rfl) ?_) | ((with_reducible refine And.intro ?_ ?_); first | (with_reducible rfl) | assumption | (simp only [go_sem]; done)))
  refine WK_for (fun n : Nat => ⟨[v, v2, .any, .any, .any, .v (.int .i64 n)] ++ junk 20, H⟩) (fun n => n ≤ l.length) (fun n => l.length - n) 0 (Weak.slots ?_) ?_ fun n hn => ?_
  · simp [go_sem]
  · simp
  rcases Int.lt_or_le (n : Int) l.length with hc | hc
  · have hj : n < l.length := by omega
    obtain ⟨i, off, c, bl, rfl, hat⟩ := h.row (by omega)
    obtain ⟨i2, off2, c2, bl2, rfl, hat2⟩ := h2.row (by omega)
    have hfit := hat.fits (rowL .u16 12) 12 (fun _ => rowL_length ..) hj (by omega)
    have hfit2 := hat2.fits (rowL .u16 12) 12 (fun _ => rowL_length ..) hj (by omega)
    have e1 := hat.elem (rowL .u16 12) 12 hz12 hj
    have e2 := hat2.elem (rowL .u16 12) 12 hz12 hj
    repeat (first | (simp only [go_sem, Int.reduceLT, Int.reduceLE, Int.reduceEq, Int.reduceToNat, hL, hL2, hc, hat.lt, hat.get, hat.live, e1, hat2.lt, hat2.get, hat2.live, e2, allEq_self]) | ((with_reducible refine And.intro ?_ ?_); omega) | ((with_reducible refine isWKr (id := 6) ?_); refine WK_drawAt 6 [[],[],[0,1],[0,1,2],[],[],[4,5],[4,5,6],[0,1,2,3,4,5,6,7]] (by kernel_rfl) ?_) | ((with_reducible refine And.intro ?_ ?_); first | (with_reducible rfl) | assumption | (simp only [go_sem]; done)))
    refine EK_again (n + 1) (Weak.slots (by simp [go_sem])) (by omega) (by omega)
  · repeat (first | (simp only [go_sem, Int.reduceLT, Int.reduceLE, Int.reduceEq, Int.reduceToNat, hL, Int.not_lt.2 hc]) | ((with_reducible refine And.intro ?_ ?_); omega) | ((with_reducible refine isWKr (id := 6) ?_); refine WK_drawAt 6 [[],[],[0,1],[0,1,2],[],[],[4,5],[4,5,6],[0,1,2,3,4,5,6,7]] (by kernel_rfl) ?_) | ((with_reducible refine And.intro ?_ ?_); first | (with_reducible rfl) | assumption | (simp only [go_sem]; done)))
    refine ret_same hq _ (.inl rfl) ?_
    simp [go_sem]
theorem sameBook {H : List Blk} {v v2 : V} {l : List (Nat → Int)} (h : Rd H v (rowL .u16 12) l) (h2 : Rd H v2 (rowL .u16 12) l) (hl : l.length ≤ 1000000000) : Cal Try.prog 60 [v, v2] H fun u H' => u = .v (.bool true) ∧ H' = H := by
  have hsol := h.solid
  have hsol2 := h2.solid
  refine cal_fn 6 mixed Try.func60 Try.ntmps60 Try.results60 rfl rfl rfl fun hw cx hx hq => ?_
  repeat (first | (simp only [go_sem, Int.reduceLT, Int.reduceLE, Int.reduceEq, Int.reduceToNat, hsol, hsol2]) | ((with_reducible refine And.intro ?_ ?_); omega) | ((with_reducible refine isSK ?_); first | (refine call_ret (l02Same h h2 hl) (by simp only [go_sem, Int.reduceLT, Int.reduceLE, Int.reduceEq, Int.reduceToNat, hsol, hsol2]) ?_)) | ((with_reducible refine isMC ?_); first | (refine mcall_ret (l02Same h h2 hl) (by simp only [go_sem, Int.reduceLT, Int.reduceLE, Int.reduceEq, Int.reduceToNat, hsol, hsol2]) (by simp only [go_sem, Int.reduceLT, Int.reduceLE, Int.reduceEq, Int.reduceToNat, hsol, hsol2]) ?_)) | ((with_reducible refine And.intro ?_ ?_); first | (with_reducible rfl) | assumption | (simp only [go_sem]; done)))
  refine ret_same hq _ (.inl rfl) ?_
  simp [go_sem]
theorem implAllJumps {H : List Blk} {v : V} {l : List (Nat → Int)} (h : Rd H v (rowL .u16 12) l) (h12 : ∀ f ∈ l, F12 f) (hok : okB l = true) :
    Cal Try.prog 67 [v] H fun u H' => u = .t [.v (.int .i64 (allJ l)), .v (.int .i64 0)] ∧ H' = H := by
  have hsol := h.solid
  have h40 := (okB_iff.1 hok).1
  refine cal_fn 8 mixed Try.func67 Try.ntmps67 Try.results67 rfl rfl rfl fun hw cx hx hq => ?_
  repeat (first | (simp only [go_sem, Int.reduceLT, Int.reduceLE, Int.reduceEq, Int.reduceToNat, hsol, hok]) | ((with_reducible refine And.intro ?_ ?_); omega) | ((with_reducible refine isSK ?_); first | (refine call_ret (validBook h (by omega)) (by simp only [go_sem, Int.reduceLT, Int.reduceLE, Int.reduceEq, Int.reduceToNat, hsol, hok]) ?_) | (refine call_ret (allJumps h h12 (by omega)) (by simp only [go_sem, Int.reduceLT, Int.reduceLE, Int.reduceEq, Int.reduceToNat, hsol, hok]) ?_)) | ((with_reducible refine isMC ?_); first | (refine mcall_ret (validBook h (by omega)) (by simp only [go_sem, Int.reduceLT, Int.reduceLE, Int.reduceEq, Int.reduceToNat, hsol, hok]) (by simp only [go_sem, Int.reduceLT, Int.reduceLE, Int.reduceEq, Int.reduceToNat, hsol, hok]) ?_) | (refine mcall_ret (allJumps h h12 (by omega)) (by simp only [go_sem, Int.reduceLT, Int.reduceLE, Int.reduceEq, Int.reduceToNat, hsol, hok]) (by simp only [go_sem, Int.reduceLT, Int.reduceLE, Int.reduceEq, Int.reduceToNat, hsol, hok]) ?_)) | ((with_reducible refine And.intro ?_ ?_); first | (with_reducible rfl) | assumption | (simp only [go_sem]; done)))
  refine ret_same hq _ (.inl rfl) ?_
  simp [go_sem]
theorem specAllJumps {H : List Blk} {v : V} {l : List (Nat → Int)} (h : Rd H v (rowL .u16 12) l) (h12 : ∀ f ∈ l, F12 f) (hok : okB l = true) :
    Cal Try.prog 68 [v] H fun u H' => u = .t [.v (.int .i64 (allJ l)), .v (.int .i64 0)] ∧ H' = H := by
  have hsol := h.solid
  have h40 := (okB_iff.1 hok).1
  have hlen := jl_len l (l.length - 1)
  refine cal_fn 9 mixed Try.func68 Try.ntmps68 Try.results68 rfl rfl rfl fun hw cx hx hq => ?_
  repeat (first | (simp only [go_sem, Int.reduceLT, Int.reduceLE, Int.reduceEq, Int.reduceToNat, hsol, hok]) | ((with_reducible refine And.intro ?_ ?_); omega) | ((with_reducible refine isSK ?_); first | (refine call_ret (l02Ok h (by omega)) (by simp only [go_sem, Int.reduceLT, Int.reduceLE, Int.reduceEq, Int.reduceToNat, hsol, hok]) ?_) | (refine call_ret (l02Jumps h h12 (by omega)) (by simp only [go_sem, Int.reduceLT, Int.reduceLE, Int.reduceEq, Int.reduceToNat, hsol, hok]) ?_) | (refine call_ret (l02Sum (l := jl l (l.length - 1)) (Rd.own0 rfl rfl rfl) jl_range (by omega)) (by simp only [go_sem, Int.reduceLT, Int.reduceLE, Int.reduceEq, Int.reduceToNat, hsol, hok]) ?_)) | ((with_reducible refine isMC ?_); first | (refine mcall_ret (l02Ok h (by omega)) (by simp only [go_sem, Int.reduceLT, Int.reduceLE, Int.reduceEq, Int.reduceToNat, hsol, hok]) (by simp only [go_sem, Int.reduceLT, Int.reduceLE, Int.reduceEq, Int.reduceToNat, hsol, hok]) ?_) | (refine mcall_ret (l02Jumps h h12 (by omega)) (by simp only [go_sem, Int.reduceLT, Int.reduceLE, Int.reduceEq, Int.reduceToNat, hsol, hok]) (by simp only [go_sem, Int.reduceLT, Int.reduceLE, Int.reduceEq, Int.reduceToNat, hsol, hok]) ?_) | (refine mcall_ret (l02Sum (l := jl l (l.length - 1)) (Rd.own0 rfl rfl rfl) jl_range (by omega)) (by simp only [go_sem, Int.reduceLT, Int.reduceLE, Int.reduceEq, Int.reduceToNat, hsol, hok]) (by simp only [go_sem, Int.reduceLT, Int.reduceLE, Int.reduceEq, Int.reduceToNat, hsol, hok]) ?_)) | ((with_reducible refine And.intro ?_ ?_); first | (with_reducible rfl) | assumption | (simp only [go_sem]; done)))
  refine ret_cut hq hw _ (.inl rfl) ?_
  simp [go_sem, allJ, hlen]
theorem okB_of {l : List (Nat → Int)} (h : ∀ f ∈ l, F12 f) (hl : l.length ≤ 40) : okB l = true := okB_iff.2 ⟨hl, List.all_eq_true.2 fun f hf => (okF_iff f).2 fun j hj => (h f hf j hj).2⟩
/- The plain law. -/
theorem mB_min (l : List (Nat → Int)) : ∀ k m, m ≤ k → cst l (mB l k) ≤ cst l m
  | 0, m, h => by rw [show m = 0 by omega]; exact Int.le_refl _
  | k + 1, m, h => by
    have ih := mB_min l k
    unfold mB
    split
    · rename_i hlt
      rcases Nat.lt_or_ge m (k + 1) with h1 | h1
      · have := ih m (by omega); omega
      · rw [show m = k + 1 by omega]; exact Int.le_refl _
    · rename_i hlt
      rcases Nat.lt_or_ge m (k + 1) with h1 | h1
      · exact ih m (by omega)
      · rw [show m = k + 1 by omega]; omega
/-- A list of sides as a number. -/
def valS : List Int → Nat
  | [] => 0
  | x :: s => x.toNat * 2 ^ s.length + valS s
theorem valS_lt : ∀ {s : List Int}, (∀ x ∈ s, x = 0 ∨ x = 1) → valS s < 2 ^ s.length
  | [], _ => by simp [valS]
  | x :: s, h => by
    have ih := valS_lt fun y hy => h y (List.mem_cons_of_mem _ hy)
    have hx : x.toNat ≤ 1 := by rcases h x (List.mem_cons_self ..) with e | e <;> omega
    unfold valS
    rw [List.length_cons, Nat.pow_succ]
    have : x.toNat * 2 ^ s.length ≤ 1 * 2 ^ s.length := Nat.mul_le_mul_right _ hx
    omega
theorem valS_bit : ∀ {s : List Int}, (∀ x ∈ s, x = 0 ∨ x = 1) → ∀ j, j < s.length → bitF (valS s) j = s[s.length - 1 - j]?.getD 0
  | [], _, j, hj => by simp at hj
  | x :: s, h, j, hj => by
    have hs : ∀ y ∈ s, y = 0 ∨ y = 1 := fun y hy => h y (List.mem_cons_of_mem _ hy)
    have hlt := valS_lt hs
    have hx := h x (List.mem_cons_self ..)
    rw [List.length_cons] at hj ⊢
    unfold bitF valS
    rcases Nat.lt_or_ge j s.length with h1 | h1
    · have ih := valS_bit hs j h1
      unfold bitF at ih
      have e1 : s.length + 1 - 1 - j = (s.length - 1 - j) + 1 := by omega
      rw [e1, List.getElem?_cons_succ, ← ih]
      have e2 : x.toNat * 2 ^ s.length = (x.toNat * 2 ^ (s.length - 1 - j) * 2) * 2 ^ j := by
        rw [Nat.mul_assoc, Nat.mul_assoc]
        congr 1
        rw [← Nat.pow_succ', ← Nat.pow_add]
        congr 1; omega
      rw [e2, Nat.add_comm, Nat.add_mul_div_right _ _ (Nat.pow_pos (by omega)), Nat.add_mul_mod_self_right]
    · have : j = s.length := by omega
      subst this
      rw [show s.length + 1 - 1 - s.length = 0 by omega, List.getElem?_cons_zero, Nat.add_comm, Nat.add_mul_div_right _ _ (Nat.pow_pos (by omega)), Nat.div_eq_of_lt hlt]
      rcases hx with rfl | rfl <;> rfl
theorem sdL_val {s : List Int} (h : ∀ x ∈ s, x = 0 ∨ x = 1) : sdL (valS s) s.length = s := by
  apply List.ext_getElem
  · simp
  · intro k h1 h2
    have := valS_bit h (s.length - 1 - k) (by omega)
    simp only [sdL, sdT, List.getElem_map, List.getElem_range]
    rw [this, show s.length - 1 - (s.length - 1 - k) = k by omega, List.getElem?_eq_getElem h2]; rfl
def sumS (l : List (Nat → Int)) (s : List Int) : Int := allJ (sdA l s 0) + allJ (sdA l s 1)
theorem cst_val {l : List (Nat → Int)} {s : List Int} (h : ∀ x ∈ s, x = 0 ∨ x = 1) (hl : s.length = l.length) : cst l (valS s) = sumS l s := by
  unfold cst sumS
  rw [← hl, sdL_val h]
def flipS (s : List Int) : List Int := s.map fun x => 1 - x
theorem flipS_01 {s : List Int} (h : ∀ x ∈ s, x = 0 ∨ x = 1) : ∀ x ∈ flipS s, x = 0 ∨ x = 1 := fun x hx => by
  unfold flipS at hx
  obtain ⟨y, hy, rfl⟩ := List.mem_map.1 hx
  rcases h y hy with rfl | rfl <;> simp
theorem flipS_sd {l : List (Nat → Int)} {s : List Int} {x : Int} (hl : s.length = l.length) : ∀ n, n ≤ l.length → sdN l (flipS s) (1 - x) n = sdN l s x n
  | 0, _ => rfl
  | n + 1, hn => by
    have ih := flipS_sd hl (x := x) n (by omega)
    have e1 : (flipS s)[n]?.getD 0 = 1 - s[n]?.getD 0 := by
      unfold flipS
      rw [List.getElem?_map, List.getElem?_eq_getElem (show n < s.length by omega)]; rfl
    unfold sdN
    rw [e1, ih]
    by_cases e : s[n]?.getD 0 = x
    · rw [if_pos e, if_pos (by omega)]
    · rw [if_neg e, if_neg (by omega)]
theorem flipS_sum {l : List (Nat → Int)} {s : List Int} (hl : s.length = l.length) : sumS l (flipS s) = sumS l s := by
  unfold sumS sdA
  have h0 := flipS_sd (l := l) (s := s) (x := 1) hl l.length (Nat.le_refl _)
  have h1 := flipS_sd (l := l) (s := s) (x := 0) hl l.length (Nat.le_refl _)
  have e0 : (1 : Int) - 1 = 0 := rfl
  have e1 : (1 : Int) - 0 = 1 := rfl
  rw [e0] at h0
  rw [e1] at h1
  rw [h0, h1, Int.add_comm]
/-- No sides have fewer jumps. -/
theorem unmix_least {l : List (Nat → Int)} {s : List Int} (h : ∀ x ∈ s, x = 0 ∨ x = 1) (hl : s.length = l.length) (hne : l ≠ []) : cst l (mU l) ≤ sumS l s := by
  have key : ∀ t : List Int, (∀ x ∈ t, x = 0 ∨ x = 1) → t.length = l.length → t[0]?.getD 0 = 0 → cst l (mU l) ≤ sumS l t := by
    intro t ht htl h0
    cases t with
    | nil => exact absurd (List.length_eq_zero_iff.1 htl.symm) hne
    | cons x t =>
      simp at h0; subst h0
      rw [← cst_val ht htl]
      have hlt := valS_lt fun y hy => ht y (List.mem_cons_of_mem _ hy)
      unfold mU
      refine mB_min l _ _ ?_
      have e1 : valS (0 :: t) = valS t := by simp [valS]
      rw [e1, ← htl, List.length_cons, Nat.add_sub_cancel]
      omega
  cases s with
  | nil => exact absurd (List.length_eq_zero_iff.1 hl.symm) hne
  | cons x t =>
    rcases h x (List.mem_cons_self ..) with rfl | rfl
    · exact key _ h hl rfl
    · have := key (flipS (1 :: t)) (flipS_01 h) (by rw [← hl]; simp [flipS]) (by simp [flipS])
      rwa [flipS_sum hl] at this
theorem sd_sum {l : List (Nat → Int)} {s : List Int} (h : ∀ x ∈ s, x = 0 ∨ x = 1) (hl : s.length = l.length) : (sdA l s 0).length + (sdA l s 1).length = l.length := by
  have : ∀ n, n ≤ l.length → (sdN l s 0 n).length + (sdN l s 1 n).length = n := by
    intro n
    induction n with
    | zero => intro _; rfl
    | succ n ih =>
      intro hn
      have ih := ih (by omega)
      have hj : n < s.length := by omega
      have e : s[n]?.getD 0 = s[n] := by rw [List.getElem?_eq_getElem hj]; rfl
      rcases h _ (List.getElem_mem hj) with e2 | e2
      · rw [sdN_at (by rw [e, e2]), sdN_no (by rw [e, e2]; decide)]; simp; omega
      · rw [sdN_no (by rw [e, e2]; decide), sdN_at (by rw [e, e2])]; simp; omega
  exact this _ (Nat.le_refl _)
theorem mU_first {l : List (Nat → Int)} (hne : l ≠ []) : (sdL (mU l) l.length)[0]?.getD 0 = 0 := by
  have hpos : 0 < l.length := List.length_pos_iff.2 hne
  rw [List.getElem?_eq_getElem (by rw [sdL_len]; exact hpos)]
  have h1 := mB_le l (2 ^ (l.length - 1) - 1)
  have h2 : 0 < 2 ^ (l.length - 1) := Nat.pow_pos (by omega)
  have h3 : mU l < 2 ^ (l.length - 1) := by unfold mU; omega
  simp only [sdL, sdT, List.getElem_map, List.getElem_range, bitF, Option.getD_some, Nat.sub_zero]
  rw [Nat.div_eq_of_lt h3]; rfl
end Go.Proofs.Ytpginknbmmdmoaa

