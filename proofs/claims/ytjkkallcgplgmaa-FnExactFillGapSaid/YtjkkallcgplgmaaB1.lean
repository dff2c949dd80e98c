/- Contracts of functions of the translated program, by the walk. -/
import Derived.Test.YtjkkallcgplgmaaR1f
import Derived.Test.YtjkkallcgplgmaaLD
set_option linter.unusedVariables false
set_option linter.unusedSimpArgs false
set_option maxRecDepth 8000
set_option maxHeartbeats 4000000
namespace Go.Proofs.Ytjkkallcgplgmaa
open Go Go.Sx

/-- What the laws lay behind a book's pages. -/
def fillF : Nat → Int := upd (fun _ => 0) 0 60201
def mk16 (k : Int) (c : Nat) : Int := IntKind.u16.wrap (k + c)
theorem eqFrameSelf {H : List Blk} {f : Nat → Int} : Cal Try.prog 72 [.a (rowL .u16 12 (f)), .a (rowL .u16 12 (f))] H fun v H' => v = .v (.bool true) ∧ H' = H := by
  have := eqFrame (H := H) (f := f) (g := f)
  rwa [allEq_self] at this
theorem roomBehind {H : List Blk} {n : Nat} (hn : n ≤ 1000000) : Cal Try.prog 59 [.v (.int .i64 n)] H fun u H' => u = .v (.int .i64 (room n)) ∧ H' = H := by
  refine cal_fn 9 mixed Try.func59 Try.ntmps59 Try.results59 rfl rfl rfl fun hw cx hx hq => ?_
  have e6 : ((n : Int).tmod 6 = 5) = (n % 6 = 5) := by apply propext; rw [Int.tmod_eq_emod_of_nonneg (by omega)]; omega
  have e3 : ((n : Int).tmod 3 = 0) = (n % 3 = 0) := by apply propext; rw [Int.tmod_eq_emod_of_nonneg (by omega)]; omega
  simp only [go_sem, e6, e3]
  repeat (refine And.intro (by omega) ?_)
  refine ⟨fun e => ?_, fun e => ?_⟩
  · refine ret_same hq _ (.inl rfl) ?_
    simp [go_sem, room, e]
  repeat (refine And.intro (by omega) ?_)
  refine ⟨fun e2 => ?_, fun e2 => ?_⟩
  · refine ret_same hq _ (.inl rfl) ?_
    simp [go_sem, room, e, e2]
  · refine ret_same hq _ (.inl rfl) ?_
    simp [go_sem, room, e, e2]

theorem szBook {H : List Blk} {v : V} {l : List (Nat → Int)} {k : Int} (h : Rd H v (rowL .u16 12) l) (hl : l.length ≤ 9223372036854775807) (hk : k = 1000000 ∨ (0 ≤ k ∧ k ≤ 1000000)) : Cal Try.prog 15 [v, .v (.int .i64 k)] H fun u H' => u = .v (.int .i64 (if (l.length : Int) ≤ k then k - l.length else -1)) ∧ H' = H := by
  refine cal_fn 10 mixed Try.func15 Try.ntmps15 Try.results15 rfl rfl rfl fun hw cx hx hq => ?_
  have hL := h.lenV (P := Try.prog) slTy22
  simp only [go_sem, hL]
  repeat (refine And.intro (by omega) ?_)
  refine ⟨fun e => ?_, fun e => ?_⟩
  · refine ret_same hq _ (.inl rfl) ?_
    simp only [go_sem]
    rw [if_neg (by omega)]
  · refine ret_same hq _ (.inl rfl) ?_
    simp only [go_sem]
    rw [if_pos (by omega)]

theorem toBook {H : List Blk} {v : V} {l : List (Nat → Int)} {b : Bool} (h : Rd H v (rowL .u16 12) l) (hl : l.length ≤ 1000000) (hb : b = false ∨ l ≠ []) :
    Cal Try.prog 17 [v, .v (.bool b)] H fun u H' => u = .s H.length 0 l.length (.k (l.length + room l.length)) ∧ H' = H ++ [⟨(l ++ List.replicate (room l.length) fillF).flatMap (rowL .u16 12), 64, .fix⟩] := by
  have hL := h.lenV (P := Try.prog) slTy22
  have hsol := h.solid
  have hroom := room_le l.length
  have hcast : ((l.length : Int) + (room l.length : Int)) = ((l.length + room l.length : Nat) : Int) := by push_cast; rfl
  have hzr : ∀ n, zerosL (rowL .u16 12 fun _ => 0) n = (List.replicate n ((fun _ => 0) : Nat → Int)).flatMap (rowL .u16 12) := fun n => zeros_flat (rowL .u16 12) (fun _ => 0) n
  refine cal_fn 49 mixed Try.func17 Try.ntmps17 Try.results17 rfl rfl rfl fun hw cx hx hq => ?_
  have hne : b = true → ((l.length : Int) = 0) = False := fun e => by
    rcases hb with hb | hb
    · rw [hb] at e; cases e
    · apply eq_false; intro e2; apply hb; apply List.length_eq_zero_iff.1; omega
  rcases b with _ | _
  all_goals (try have hne' := hne rfl)
  all_goals
    simp only [go_sem, hL, ]
  all_goals (try simp only [go_sem, hne'])
  all_goals
    repeat (refine And.intro (by omega) ?_)
    refine call_ret (roomBehind (by omega)) (by simp only [go_sem]) ?_
    simp only [go_sem, hcast, rowL_rep, hzr]
    repeat (refine And.intro (by omega) ?_)
    refine WK_for (fun n : Nat => ⟨[v, .any, .any, .any, .any, .s H.length 0 (l.length + room l.length) (.k (l.length + room l.length)), .v (.int .i64 n)] ++ junk 44, H ++ [⟨(l.take n ++ List.replicate (l.length + room l.length - n) (fun _ => 0)).flatMap (rowL .u16 12), 64, .fix⟩]⟩) (fun n => n ≤ l.length) (fun n => l.length - n) 0 (Weak.slots ?_) ?_ fun n hn => ?_
    · simp [go_sem]
    · simp
    rcases Int.lt_or_le (n : Int) l.length with hc | hc
    · have hj : n < l.length := by omega
      obtain ⟨i, off, c, bl, rfl, hat⟩ := h.row (by omega)
      have hfit := hat.fits (rowL .u16 12) 12 (fun _ => rowL_length ..) hj (by omega)
      have hlt := hat.lt
      have hset : wr ((l.take n ++ List.replicate (l.length + room l.length - n) (fun _ => 0)).flatMap (rowL .u16 12)) (n * 12) ((rowL .u16 12) l[n]) = (l.take (n + 1) ++ List.replicate (l.length + room l.length - (n + 1)) (fun _ => 0)).flatMap (rowL .u16 12) := by
        rw [flat_set (rowL .u16 12) 12 (fun _ => rowL_length ..) _ _ _ (by simp; omega)]
        obtain ⟨m, hm⟩ : ∃ m, l.length + room l.length - n = m + 1 := ⟨l.length + room l.length - (n + 1), by omega⟩
        have hm2 : l.length + room l.length - (n + 1) = m := by omega
        rw [hm, hm2, set_take hj]
      have hflen := Flat.flen (flat_rowL .u16 12) (l.take n ++ List.replicate (l.length + room l.length - n) (fun _ => 0))
      have hflen2 : (l.take n ++ List.replicate (l.length + room l.length - n) ((fun _ => 0) : Nat → Int)).length = l.length + room l.length := by simp; omega
      rw [hflen2] at hflen
      simp only [go_sem, hc, hat.get, hat.live, hlt, hat.elem (rowL .u16 12) 12 (fun _ => rowL_length ..) hj]
      repeat (refine And.intro (by omega) ?_)
      refine call_ret (toFrame) (by simp only [go_sem]) ?_
      simp only [go_sem]
      repeat (refine And.intro (by omega) ?_)
      repeat (first | simp only [go_sem, hflen] | refine And.intro (by omega) ?_)
      refine EK_again (n + 1) ?_ (by omega) (by omega)
      rw [hset]
      exact Weak.slots (by simp [go_sem])
    · have hnl : n = l.length := by omega
      subst hnl
      have e0 : (l.take l.length ++ List.replicate (l.length + room l.length - l.length) ((fun _ => 0) : Nat → Int)) = (l ++ (List.replicate (l.length - l.length) fillF ++ List.replicate (l.length + room l.length - l.length) (fun _ => 0))) := by simp
      simp only [go_sem, hL, Int.not_lt.2 hc, e0]
      refine WK_for (fun m : Nat => ⟨[v, .any, .any, .any, .any, .s H.length 0 (l.length + room l.length) (.k (l.length + room l.length)), .any, .v (.int .i64 m)] ++ junk 43, H ++ [⟨(l ++ (List.replicate (m - l.length) fillF ++ List.replicate (l.length + room l.length - m) (fun _ => 0))).flatMap (rowL .u16 12), 64, .fix⟩]⟩) (fun m => l.length ≤ m ∧ m ≤ l.length + room l.length) (fun m => l.length + room l.length - m) l.length (Weak.slots ?_) ?_ fun m hm => ?_
      · simp [go_sem]
      · simp
      rcases Int.lt_or_le (m : Int) ((l.length + room l.length : Nat) : Int) with hc2 | hc2
      · have hflen := Flat.flen (flat_rowL .u16 12) (l ++ (List.replicate (m - l.length) fillF ++ List.replicate (l.length + room l.length - m) (fun _ => 0)))
        have hflen2 : (l ++ (List.replicate (m - l.length) (fillF : Nat → Int) ++ List.replicate (l.length + room l.length - m) (fun _ => 0))).length = l.length + room l.length := by simp; omega
        have hset : wr ((l ++ (List.replicate (m - l.length) fillF ++ List.replicate (l.length + room l.length - m) (fun _ => 0))).flatMap (rowL .u16 12)) (m * 12) ((rowL .u16 12) fillF) = (l ++ (List.replicate (m + 1 - l.length) fillF ++ List.replicate (l.length + room l.length - (m + 1)) (fun _ => 0))).flatMap (rowL .u16 12) := by
          rw [flat_set (rowL .u16 12) 12 (fun _ => rowL_length ..) _ _ _ (by rw [hflen2]; omega)]
          congr 1
          have := set_rep (l := l) (f := fillF) (z := ((fun _ => 0) : Nat → Int)) (a := m - l.length) (m := l.length + room l.length - (m + 1))
          rw [show l.length + (m - l.length) = m by omega, show l.length + room l.length - (m + 1) + 1 = l.length + room l.length - m by omega, show m - l.length + 1 = m + 1 - l.length by omega] at this
          exact this
        rw [hflen2] at hflen
        simp only [go_sem, hc2, rowL_rep]
        rw [show wr (rowL .u16 12 fun _ => 0) 0 [.v (.int .u16 60201)] = rowL .u16 12 fillF from rowL_wr .u16 12 _ (by omega) _]
        repeat (first | simp only [go_sem, hflen] | refine And.intro (by omega) ?_)
        refine EK_again (m + 1) ?_ (by omega) (by omega)
        rw [hset]
        exact Weak.slots (by simp [go_sem])
      · have hml : m = l.length + room l.length := by omega
        subst hml
        simp only [go_sem, Int.not_lt.2 hc2, hL]
        repeat (refine And.intro (by omega) ?_)
        refine ret_at hq _ (.inl rfl) (by simp) ?_
        simp [go_sem]
theorem toBookNil {H : List Blk} {v : V} (h : Rd H v (rowL .u16 12) []) : Cal Try.prog 17 [v, .v (.bool true)] H fun u H' => u = .v (.slice none 0 0) ∧ H' = H := by
  have hL := h.lenV (P := Try.prog) slTy22
  refine cal_fn 49 mixed Try.func17 Try.ntmps17 Try.results17 rfl rfl rfl fun hw cx hx hq => ?_
  simp only [go_sem, hL, List.length_nil, Int.ofNat_eq_natCast, Int.natCast_zero]
  refine ret_same hq _ (.inl rfl) ?_
  simp only [go_sem]

theorem eqBook {H : List Blk} {v v2 : V} {l : List (Nat → Int)} (h : Rd H v (rowL .u16 12) l) (h2 : Rd H v2 (rowL .u16 12) l) (hl : l.length ≤ 1000000000) : Cal Try.prog 24 [v, v2] H fun u H' => u = .v (.bool true) ∧ H' = H := by
  have hL := h.lenV (P := Try.prog) slTy27
  have hL2 := h2.lenV (P := Try.prog) slTy27
  refine cal_fn 25 mixed Try.func24 Try.ntmps24 Try.results24 rfl rfl rfl fun hw cx hx hq => ?_
  simp only [go_sem, hL, hL2]
  repeat (refine And.intro (by omega) ?_)
  refine WK_for (fun n : Nat => ⟨[v, v2, .any, .any, .v (.bool false), .v (.int .i64 n)] ++ junk 21, H⟩) (fun n => n ≤ l.length) (fun n => l.length - n) 0 (Weak.slots ?_) ?_ fun n hn => ?_
  · simp [go_sem]
  · simp
  rcases Int.lt_or_le (n : Int) l.length with hc | hc
  · have hj : n < l.length := by omega
    obtain ⟨i, off, c, bl, rfl, hat⟩ := h.row (by omega)
    obtain ⟨i2, off2, c2, bl2, rfl, hat2⟩ := h2.row (by omega)
    have hfit := hat.fits (rowL .u16 12) 12 (fun _ => rowL_length ..) hj (by omega)
    have hfit2 := hat2.fits (rowL .u16 12) 12 (fun _ => rowL_length ..) hj (by omega)
    simp only [go_sem, hc, hat.get, hat.live, hat.elem (rowL .u16 12) 12 (fun _ => rowL_length ..) hj, hat2.get, hat2.live, hat2.elem (rowL .u16 12) 12 (fun _ => rowL_length ..) hj]
    repeat (first | (simp only [go_sem, Int.reduceLT, Int.reduceLE, Int.reduceEq, Int.reduceToNat, hat.get, hat.live, hat.elem (rowL .u16 12) 12 (fun _ => rowL_length ..) hj, hat2.get, hat2.live, hat2.elem (rowL .u16 12) 12 (fun _ => rowL_length ..) hj]) | ((with_reducible refine And.intro ?_ ?_); omega) | ((with_reducible refine isSK ?_); first | (refine call_ret (eqFrameSelf) (by simp only [go_sem, Int.reduceLT, Int.reduceLE, Int.reduceEq, Int.reduceToNat, hat.get, hat.live, hat.elem (rowL .u16 12) 12 (fun _ => rowL_length ..) hj, hat2.get, hat2.live, hat2.elem (rowL .u16 12) 12 (fun _ => rowL_length ..) hj]) ?_)) | ((with_reducible refine isMC ?_); first | (refine mcall_ret (eqFrameSelf) (by simp only [go_sem, Int.reduceLT, Int.reduceLE, Int.reduceEq, Int.reduceToNat, hat.get, hat.live, hat.elem (rowL .u16 12) 12 (fun _ => rowL_length ..) hj, hat2.get, hat2.live, hat2.elem (rowL .u16 12) 12 (fun _ => rowL_length ..) hj]) (by simp only [go_sem, Int.reduceLT, Int.reduceLE, Int.reduceEq, Int.reduceToNat, hat.get, hat.live, hat.elem (rowL .u16 12) 12 (fun _ => rowL_length ..) hj, hat2.get, hat2.live, hat2.elem (rowL .u16 12) 12 (fun _ => rowL_length ..) hj]) ?_)) | ((with_reducible refine isWKr (id := 6) ?_); refine WK_drawUp 6 [[],[],[0,1],[0,1,2],[],[],[4,5],[4,5,6],[0,1,2,3,4,5,6,7],[0,1,2,3,4,5,6,7,8]] 8 (by kernel_rfl) ?_; dsimp only [List.take, List.drop]) | ((with_reducible refine And.intro ?_ ?_); first | (with_reducible rfl) | assumption | (simp only [go_sem]; done)))
    refine EK_again (n + 1) (Weak.slots (by simp [go_sem])) (by omega) (by omega)
  · simp only [go_sem, hL, Int.not_lt.2 hc]
    refine ret_same hq _ (.inl rfl) ?_
    simp only [go_sem]

theorem intactBook {H : List Blk} {i j : Nat} {b b2 : Blk} {l r : List (Nat → Int)} (h : At H i 0 ((l ++ r).flatMap (rowL .u16 12)) b) (h2 : At H j 0 ((l ++ r).flatMap (rowL .u16 12)) b2) (hr : r.length = room l.length) (hl : l.length ≤ 1000000) :
    Cal Try.prog 19 [.s i 0 l.length (.k (l.length + room l.length)), .s j 0 l.length (.k (l.length + room l.length))] H fun u H' => u = .v (.bool true) ∧ H' = H := by
  have hroom := room_le l.length
  have hcast : ((l.length : Int) + (room l.length : Int)) = ((l.length + room l.length : Nat) : Int) := by push_cast; rfl
  have hif : ∀ o : Nat, (if l.length + room l.length = 0 then o else o) = o := fun o => ite_self ..
  refine cal_fn 24 mixed Try.func19 Try.ntmps19 Try.results19 rfl rfl rfl fun hw cx hx hq => ?_
  simp only [go_sem]
  repeat (refine And.intro (by omega) ?_)
  refine call_ret (roomBehind (by omega)) (by simp only [go_sem]) ?_
  simp only [go_sem, hcast]
  repeat (refine And.intro (by omega) ?_)
  have hlen : l.length + room l.length = (l ++ r).length := by rw [List.length_append, hr]
  repeat (first | (simp only [go_sem, Int.reduceLT, Int.reduceLE, Int.reduceEq, Int.reduceToNat, hif, ite_self]) | ((with_reducible refine And.intro ?_ ?_); omega) | ((with_reducible refine isSK ?_); first | (refine call_ret (eqBook (l := l ++ r) (Rd.of' h hlen) (Rd.of' h2 hlen) (by omega)) (by simp only [go_sem, Int.reduceLT, Int.reduceLE, Int.reduceEq, Int.reduceToNat, hif, ite_self]) ?_)) | ((with_reducible refine isMC ?_); first | (refine mcall_ret (eqBook (l := l ++ r) (Rd.of' h hlen) (Rd.of' h2 hlen) (by omega)) (by simp only [go_sem, Int.reduceLT, Int.reduceLE, Int.reduceEq, Int.reduceToNat, hif, ite_self]) (by simp only [go_sem, Int.reduceLT, Int.reduceLE, Int.reduceEq, Int.reduceToNat, hif, ite_self]) ?_)) | ((with_reducible refine isWKr (id := 2) ?_); refine WK_drawUp 2 [[],[0],[],[2],[0,1,2,3],[0,1,2,3,4],[0,1,2,3,4,5],[0,1,2,3,4,5],[0,1,2,3,4,5,6,7],[0,1,2,3,4,5],[0,1,2,3,4,5],[0,1,2,3,4,5,9,10],[0,1,2,3,4,5,6,7,8,9,10,11],[0,1,2,3,4,5,6,7,8,9,10,11,12],[0,1,2,3,4,5,6,7,8,9,10,11,12,13]] 12 (by kernel_rfl) ?_; dsimp only [List.take, List.drop]) | ((with_reducible refine And.intro ?_ ?_); first | (with_reducible rfl) | assumption | (simp only [go_sem]; done)))
  refine ret_same hq _ (.inl rfl) ?_
  simp [go_sem]

theorem markBook {H : List Blk} {i N : Nat} {c : Cap} {F : Nat → Int} {rest : List V} {ty : TypeId} {kd : BK} {k : Int} (h : H[i]? = some ⟨rowL .u16 (N * 12) F ++ rest, ty, kd⟩) (hk : kd.mut = true) (hl : N ≤ 1000000) (hk0 : 0 ≤ k ∧ k ≤ 1000000000) :
    Cal Try.prog 26 [.s i 0 N c, .v (.int .i64 k)] H fun u H' => u = .v (.int .i64 (k + (N * 12 : Nat))) ∧ H' = H.set i ⟨rowL .u16 (N * 12) (mk16 k) ++ rest, ty, kd⟩ := by
  have hlt := (List.getElem?_eq_some_iff.1 h).1
  have hgs : ∀ b : Blk, (H.set i b)[i]? = some b := fun b => List.getElem?_set_self hlt
  refine cal_fn 25 mixed Try.func26 Try.ntmps26 Try.results26 rfl rfl rfl fun hw cx hx hq => ?_
  simp only [go_sem]
  refine WK_for (fun n : Nat => ⟨[.s i 0 N c, .v (.int .i64 (k + (n * 12 : Nat))), .any, .any, .any, .v (.int .i64 n)] ++ junk 21, H.set i ⟨rowL .u16 (N * 12) (pfx (mk16 k) F (n * 12)) ++ rest, ty, kd⟩⟩) (fun n => n ≤ N) (fun n => N - n) 0 ?_ ?_ fun n hn => ?_
  · simp only [Nat.zero_mul, pfx_zero, set_get h]
    exact Weak.slots (by simp [go_sem])
  · simp
  rcases Int.lt_or_le (n : Int) N with hc | hc
  · simp only [go_sem, hc]
    try repeat (refine And.intro (by omega) ?_)
    refine WK_for (fun m : Nat => ⟨[.s i 0 N c, .v (.int .i64 (k + (n * 12 + m : Nat))), .any, .any, .any, .v (.int .i64 n), .v (.int .i64 m)] ++ junk 20, H.set i ⟨rowL .u16 (N * 12) (pfx (mk16 k) F (n * 12 + m)) ++ rest, ty, kd⟩⟩) (fun m => m ≤ 12) (fun m => 12 - m) 0 (Weak.slots ?_) ?_ fun m hm => ?_
    · simp [go_sem]
    · simp
    rcases Int.lt_or_le (m : Int) 12 with hc2 | hc2
    · have hin : n * 12 + m < N * 12 := by
        have : (n + 1) * 12 ≤ N * 12 := Nat.mul_le_mul_right _ (by omega)
        omega
      have hw := wr_pfx_app .u16 (mk16 k) F rest hin rfl
      simp only [mk16] at hw
      repeat (first | simp only [go_sem, hc2, hgs, hk, List.set_set] | refine And.intro (by omega) ?_)
      simp only [hw]
      refine EK_again (m + 1) ?_ (by omega) (by omega)
      exact Weak.slots (by simp [go_sem]; omega)
    · have : m = 12 := by omega
      subst this
      simp only [go_sem, Int.not_lt.2 hc2]
      repeat (refine And.intro (by omega) ?_)
      refine EK_again (n + 1) ?_ (by omega) (by omega)
      simp only [Nat.succ_mul]
      exact Weak.slots (by simp [go_sem])
  · have : n = N := by omega
    subst this
    simp only [go_sem, Int.not_lt.2 hc, pfx_all]
    refine ret_at hq _ (.inl rfl) (by simp) ?_
    simp [go_sem]
theorem heldBook {H : List Blk} {i N : Nat} {c : Cap} {b : Blk} {k : Int} (h : At H i 0 (rowL .u16 (N * 12) (mk16 k)) b) (hl : N ≤ 1000000) (hk0 : 0 ≤ k ∧ k ≤ 1000000000) :
    Cal Try.prog 28 [.s i 0 N c, .v (.int .i64 k)] H fun u H' => u = .v (.int .i64 (k + (N * 12 : Nat))) ∧ H' = H := by
  refine cal_fn 27 mixed Try.func28 Try.ntmps28 Try.results28 rfl rfl rfl fun hw cx hx hq => ?_
  simp only [go_sem]
  refine WK_for (fun n : Nat => ⟨[.s i 0 N c, .v (.int .i64 (k + (n * 12 : Nat))), .any, .any, .v (.int .i64 0), .v (.int .i64 n)] ++ junk 23, H⟩) (fun n => n ≤ N) (fun n => N - n) 0 (Weak.slots ?_) ?_ fun n hn => ?_
  · simp [go_sem]
  · simp
  rcases Int.lt_or_le (n : Int) N with hc | hc
  · simp only [go_sem, hc]
    try repeat (refine And.intro (by omega) ?_)
    refine WK_for (fun m : Nat => ⟨[.s i 0 N c, .v (.int .i64 (k + (n * 12 + m : Nat))), .any, .any, .v (.int .i64 0), .v (.int .i64 n), .v (.int .i64 m)] ++ junk 22, H⟩) (fun m => m ≤ 12) (fun m => 12 - m) 0 (Weak.slots ?_) ?_ fun m hm => ?_
    · simp [go_sem]
    · simp
    rcases Int.lt_or_le (m : Int) 12 with hc2 | hc2
    · have hin : n * 12 + m < N * 12 := by
        have : (n + 1) * 12 ≤ N * 12 := Nat.mul_le_mul_right _ (by omega)
        omega
      have hcel := h.cel hin
      have hlen := h.len (by simp only [go_sem]; omega)
      simp only [go_sem, mk16] at hcel hlen
      repeat (first | simp only [go_sem, hc2, h.get, h.live, hcel] | refine And.intro (by omega) ?_)
      refine EK_again (m + 1) ?_ (by omega) (by omega)
      exact Weak.slots (by simp [go_sem]; omega)
    · have : m = 12 := by omega
      subst this
      simp only [go_sem, Int.not_lt.2 hc2]
      repeat (refine And.intro (by omega) ?_)
      refine EK_again (n + 1) ?_ (by omega) (by omega)
      simp only [Nat.succ_mul]
      exact Weak.slots (by simp [go_sem])
  · have : n = N := by omega
    subst this
    simp only [go_sem, Int.not_lt.2 hc]
    refine ret_same hq _ (.inl rfl) ?_
    simp [go_sem]

theorem markBookNil {H : List Blk} {k : Int} : Cal Try.prog 26 [.v (.slice none 0 0), .v (.int .i64 k)] H fun u H' => u = .v (.int .i64 k) ∧ H' = H := by
  refine cal_fn 25 mixed Try.func26 Try.ntmps26 Try.results26 rfl rfl rfl fun hw cx hx hq => ?_
  simp only [go_sem]
  refine WK_for (fun n : Nat => ⟨[.v (.slice none 0 0), .v (.int .i64 k), .any, .any, .any, .v (.int .i64 0)] ++ junk 21, H⟩) (fun n => n = 0) (fun n => n) 0 (Weak.slots (by simp [go_sem])) rfl fun n hn => ?_
  simp only [go_sem, Int.reduceLT, Int.ofNat_eq_natCast, Int.natCast_zero]
  refine ret_same hq _ (.inl rfl) ?_
  simp [go_sem]
theorem heldBookNil {H : List Blk} {k : Int} : Cal Try.prog 28 [.v (.slice none 0 0), .v (.int .i64 k)] H fun u H' => u = .v (.int .i64 k) ∧ H' = H := by
  refine cal_fn 27 mixed Try.func28 Try.ntmps28 Try.results28 rfl rfl rfl fun hw cx hx hq => ?_
  simp only [go_sem]
  refine WK_for (fun n : Nat => ⟨[.v (.slice none 0 0), .v (.int .i64 k), .any, .any, .v (.int .i64 0), .v (.int .i64 0)] ++ junk 23, H⟩) (fun n => n = 0) (fun n => n) 0 (Weak.slots (by simp [go_sem])) rfl fun n hn => ?_
  simp only [go_sem, Int.reduceLT, Int.ofNat_eq_natCast, Int.natCast_zero]
  refine ret_same hq _ (.inl rfl) ?_
  simp [go_sem]

end Go.Proofs.Ytjkkallcgplgmaa


