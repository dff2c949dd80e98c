/- Contracts of functions of the translated program, by the walk. -/
import Derived.Test.YtjkkallcgplgmaaB5
set_option linter.unusedVariables false
set_option linter.unusedSimpArgs false
set_option maxRecDepth 8000
set_option maxHeartbeats 4000000
namespace Go.Proofs.Ytjkkallcgplgmaa
open Go Go.Sx
theorem eqInt64A2Self {H : List Blk} {f : Nat → Int} : Cal Try.prog 107 [.a (rowL .i64 2 f), .a (rowL .i64 2 f)] H fun v H' => v = .v (.bool true) ∧ H' = H := by
  refine cal_fn 15 mixed Try.func107 Try.ntmps107 Try.results107 rfl rfl rfl fun hw cx hx hq => ?_
  simp only [go_sem]
  refine WK_for (fun n : Nat => ⟨[.a (rowL .i64 2 f), .a (rowL .i64 2 f), .p H.length 0, .p (H.length + 1) 0, .v (.bool false), .v (.int .i64 n)] ++ junk 11, H ++ [⟨rowL .i64 2 f, 69, .fix⟩, ⟨rowL .i64 2 f, 69, .fix⟩]⟩) (fun n => n ≤ 2) (fun n => 2 - n) 0 (Weak.slots ?_) ?_ fun n hn => ?_
  · simp [go_sem]
  · simp
  rcases Int.lt_or_le (n : Int) 2 with hc | hc
  · have hj : n < 2 := by omega
    simp only [go_sem, hc]
    refine DK_all _ _ _ [[],[0],[0,1],[],[3],[3,4],[0,1,2,3,4,5]] (by kernel_rfl) ?_
    simp only [go_sem, rowL_cel _ _ _ hj]
    repeat (refine And.intro (by omega) ?_)
    refine EK_again (n + 1) (Weak.slots (by simp [go_sem])) (by omega) (by omega)
  · have : n = 2 := by omega
    subst this
    simp only [go_sem, Int.not_lt.2 hc]
    refine ret_cut hq hw _ (.inl rfl) ?_
    simp only [go_sem]

theorem eqInt64A2S {H : List Blk} {v v2 : V} {l : List (Nat → Int)} (h : Rd H v (rowL .i64 2) l) (h2 : Rd H v2 (rowL .i64 2) l) (hl : l.length ≤ 1000000000) : Cal Try.prog 54 [v, v2] H fun u H' => u = .v (.bool true) ∧ H' = H := by
  have hL := h.lenV (P := Try.prog) slTy31
  have hL2 := h2.lenV (P := Try.prog) slTy31
  refine cal_fn 25 mixed Try.func54 Try.ntmps54 Try.results54 rfl rfl rfl fun hw cx hx hq => ?_
  simp only [go_sem, hL, hL2]
  repeat (refine And.intro (by omega) ?_)
  refine WK_for (fun n : Nat => ⟨[v, v2, .any, .any, .v (.bool false), .v (.int .i64 n)] ++ junk 21, H⟩) (fun n => n ≤ l.length) (fun n => l.length - n) 0 (Weak.slots ?_) ?_ fun n hn => ?_
  · simp [go_sem]
  · simp
  rcases Int.lt_or_le (n : Int) l.length with hc | hc
  · have hj : n < l.length := by omega
    obtain ⟨i, off, c, bl, rfl, hat⟩ := h.row (by omega)
    obtain ⟨i2, off2, c2, bl2, rfl, hat2⟩ := h2.row (by omega)
    have hfit := hat.fits (rowL .i64 2) 2 (fun _ => rowL_length ..) hj (by omega)
    have hfit2 := hat2.fits (rowL .i64 2) 2 (fun _ => rowL_length ..) hj (by omega)
    simp only [go_sem, hc, hat.get, hat.live, hat.elem (rowL .i64 2) 2 (fun _ => rowL_length ..) hj, hat2.get, hat2.live, hat2.elem (rowL .i64 2) 2 (fun _ => rowL_length ..) hj]
    repeat (first | (simp only [go_sem, Int.reduceLT, Int.reduceLE, Int.reduceEq, Int.reduceToNat, hat.get, hat.live, hat.elem (rowL .i64 2) 2 (fun _ => rowL_length ..) hj, hat2.get, hat2.live, hat2.elem (rowL .i64 2) 2 (fun _ => rowL_length ..) hj]) | ((with_reducible refine And.intro ?_ ?_); omega) | ((with_reducible refine isSK ?_); first | (refine call_ret (eqInt64A2Self) (by simp only [go_sem, Int.reduceLT, Int.reduceLE, Int.reduceEq, Int.reduceToNat, hat.get, hat.live, hat.elem (rowL .i64 2) 2 (fun _ => rowL_length ..) hj, hat2.get, hat2.live, hat2.elem (rowL .i64 2) 2 (fun _ => rowL_length ..) hj]) ?_)) | ((with_reducible refine isMC ?_); first | (refine mcall_ret (eqInt64A2Self) (by simp only [go_sem, Int.reduceLT, Int.reduceLE, Int.reduceEq, Int.reduceToNat, hat.get, hat.live, hat.elem (rowL .i64 2) 2 (fun _ => rowL_length ..) hj, hat2.get, hat2.live, hat2.elem (rowL .i64 2) 2 (fun _ => rowL_length ..) hj]) (by simp only [go_sem, Int.reduceLT, Int.reduceLE, Int.reduceEq, Int.reduceToNat, hat.get, hat.live, hat.elem (rowL .i64 2) 2 (fun _ => rowL_length ..) hj, hat2.get, hat2.live, hat2.elem (rowL .i64 2) 2 (fun _ => rowL_length ..) hj]) ?_)) | ((with_reducible refine isWKr (id := 6) ?_); refine WK_drawUp 6 [[],[],[0,1],[0,1,2],[],[],[4,5],[4,5,6],[0,1,2,3,4,5,6,7],[0,1,2,3,4,5,6,7,8]] 8 (by kernel_rfl) ?_; dsimp only [List.take, List.drop]) | ((with_reducible refine And.intro ?_ ?_); first | (with_reducible rfl) | assumption | (simp only [go_sem]; done)))
    refine EK_again (n + 1) (Weak.slots (by simp [go_sem])) (by omega) (by omega)
  · simp only [go_sem, hL, Int.not_lt.2 hc]
    refine ret_same hq _ (.inl rfl) ?_
    simp only [go_sem]

theorem markInt64A2S {H : List Blk} {i N : Nat} {c : Cap} {F : Nat → Int} {rest : List V} {ty : TypeId} {kd : BK} {k : Int} (h : H[i]? = some ⟨rowL .i64 (N * 2) F ++ rest, ty, kd⟩) (hk : kd.mut = true) (hl : N ≤ 1000000) (hk0 : 0 ≤ k ∧ k ≤ 1000000000) :
    Cal Try.prog 27 [.s i 0 N c, .v (.int .i64 k)] H fun u H' => u = .v (.int .i64 (k + (N * 2 : Nat))) ∧ H' = H.set i ⟨rowL .i64 (N * 2) (mk64 k) ++ rest, ty, kd⟩ := by
  have hlt := (List.getElem?_eq_some_iff.1 h).1
  have hgs : ∀ b : Blk, (H.set i b)[i]? = some b := fun b => List.getElem?_set_self hlt
  refine cal_fn 24 mixed Try.func27 Try.ntmps27 Try.results27 rfl rfl rfl fun hw cx hx hq => ?_
  simp only [go_sem]
  refine WK_for (fun n : Nat => ⟨[.s i 0 N c, .v (.int .i64 (k + (n * 2 : Nat))), .any, .any, .any, .v (.int .i64 n)] ++ junk 20, H.set i ⟨rowL .i64 (N * 2) (pfx (mk64 k) F (n * 2)) ++ rest, ty, kd⟩⟩) (fun n => n ≤ N) (fun n => N - n) 0 ?_ ?_ fun n hn => ?_
  · simp only [Nat.zero_mul, pfx_zero, set_get h]
    exact Weak.slots (by simp [go_sem])
  · simp
  rcases Int.lt_or_le (n : Int) N with hc | hc
  · simp only [go_sem, hc]
    try repeat (refine And.intro (by omega) ?_)
    refine WK_for (fun m : Nat => ⟨[.s i 0 N c, .v (.int .i64 (k + (n * 2 + m : Nat))), .any, .any, .any, .v (.int .i64 n), .v (.int .i64 m)] ++ junk 19, H.set i ⟨rowL .i64 (N * 2) (pfx (mk64 k) F (n * 2 + m)) ++ rest, ty, kd⟩⟩) (fun m => m ≤ 2) (fun m => 2 - m) 0 (Weak.slots ?_) ?_ fun m hm => ?_
    · simp [go_sem]
    · simp
    rcases Int.lt_or_le (m : Int) 2 with hc2 | hc2
    · have hin : n * 2 + m < N * 2 := by
        have : (n + 1) * 2 ≤ N * 2 := Nat.mul_le_mul_right _ (by omega)
        omega
      have hw := wr_pfx_app .i64 (mk64 k) F rest hin rfl
      simp only [mk64] at hw
      repeat (first | simp only [go_sem, hc2, hgs, hk, List.set_set] | refine And.intro (by omega) ?_)
      simp only [hw]
      refine EK_again (m + 1) ?_ (by omega) (by omega)
      exact Weak.slots (by simp [go_sem]; omega)
    · have : m = 2 := by omega
      subst this
      simp only [go_sem, Int.not_lt.2 hc2]
      repeat (refine And.intro (by omega) ?_)
      refine EK_again (n + 1) ?_ (by omega) (by omega)
      simp only [Nat.succ_mul]
      exact Weak.slots (by simp [go_sem])
  · have : n = N := by omega
    subst this
    simp only [go_sem, Int.not_lt.2 hc, pfx_all]
    refine ret_at hq _ (.inl rfl) (by simp) ?_
    simp [go_sem]
theorem heldInt64A2S {H : List Blk} {i N : Nat} {c : Cap} {b : Blk} {k : Int} (h : At H i 0 (rowL .i64 (N * 2) (mk64 k)) b) (hl : N ≤ 1000000) (hk0 : 0 ≤ k ∧ k ≤ 1000000000) :
    Cal Try.prog 55 [.s i 0 N c, .v (.int .i64 k)] H fun u H' => u = .v (.int .i64 (k + (N * 2 : Nat))) ∧ H' = H := by
  refine cal_fn 26 mixed Try.func55 Try.ntmps55 Try.results55 rfl rfl rfl fun hw cx hx hq => ?_
  simp only [go_sem]
  refine WK_for (fun n : Nat => ⟨[.s i 0 N c, .v (.int .i64 (k + (n * 2 : Nat))), .any, .any, .v (.int .i64 0), .v (.int .i64 n)] ++ junk 22, H⟩) (fun n => n ≤ N) (fun n => N - n) 0 (Weak.slots ?_) ?_ fun n hn => ?_
  · simp [go_sem]
  · simp
  rcases Int.lt_or_le (n : Int) N with hc | hc
  · simp only [go_sem, hc]
    try repeat (refine And.intro (by omega) ?_)
    refine WK_for (fun m : Nat => ⟨[.s i 0 N c, .v (.int .i64 (k + (n * 2 + m : Nat))), .any, .any, .v (.int .i64 0), .v (.int .i64 n), .v (.int .i64 m)] ++ junk 21, H⟩) (fun m => m ≤ 2) (fun m => 2 - m) 0 (Weak.slots ?_) ?_ fun m hm => ?_
    · simp [go_sem]
    · simp
    rcases Int.lt_or_le (m : Int) 2 with hc2 | hc2
    · have hin : n * 2 + m < N * 2 := by
        have : (n + 1) * 2 ≤ N * 2 := Nat.mul_le_mul_right _ (by omega)
        omega
      have hcel := h.cel hin
      have hlen := h.len (by simp only [go_sem]; omega)
      simp only [go_sem, mk64] at hcel hlen
      repeat (first | simp only [go_sem, hc2, h.get, h.live, hcel] | refine And.intro (by omega) ?_)
      refine EK_again (m + 1) ?_ (by omega) (by omega)
      exact Weak.slots (by simp [go_sem]; omega)
    · have : m = 2 := by omega
      subst this
      simp only [go_sem, Int.not_lt.2 hc2]
      repeat (refine And.intro (by omega) ?_)
      refine EK_again (n + 1) ?_ (by omega) (by omega)
      simp only [Nat.succ_mul]
      exact Weak.slots (by simp [go_sem])
  · have : n = N := by omega
    subst this
    simp only [go_sem, Int.not_lt.2 hc]
    refine ret_same hq _ (.inl rfl) ?_
    simp [go_sem]

theorem markInt64A2SNil {H : List Blk} {k : Int} : Cal Try.prog 27 [.v (.slice none 0 0), .v (.int .i64 k)] H fun u H' => u = .v (.int .i64 k) ∧ H' = H := by
  refine cal_fn 24 mixed Try.func27 Try.ntmps27 Try.results27 rfl rfl rfl fun hw cx hx hq => ?_
  simp only [go_sem]
  refine WK_for (fun n : Nat => ⟨[.v (.slice none 0 0), .v (.int .i64 k), .any, .any, .any, .v (.int .i64 0)] ++ junk 20, H⟩) (fun n => n = 0) (fun n => n) 0 (Weak.slots (by simp [go_sem])) rfl fun n hn => ?_
  simp only [go_sem, Int.reduceLT, Int.ofNat_eq_natCast, Int.natCast_zero]
  refine ret_same hq _ (.inl rfl) ?_
  simp [go_sem]
theorem heldInt64A2SNil {H : List Blk} {k : Int} : Cal Try.prog 55 [.v (.slice none 0 0), .v (.int .i64 k)] H fun u H' => u = .v (.int .i64 k) ∧ H' = H := by
  refine cal_fn 26 mixed Try.func55 Try.ntmps55 Try.results55 rfl rfl rfl fun hw cx hx hq => ?_
  simp only [go_sem]
  refine WK_for (fun n : Nat => ⟨[.v (.slice none 0 0), .v (.int .i64 k), .any, .any, .v (.int .i64 0), .v (.int .i64 0)] ++ junk 22, H⟩) (fun n => n = 0) (fun n => n) 0 (Weak.slots (by simp [go_sem])) rfl fun n hn => ?_
  simp only [go_sem, Int.reduceLT, Int.ofNat_eq_natCast, Int.natCast_zero]
  refine ret_same hq _ (.inl rfl) ?_
  simp [go_sem]
theorem markInt64A2SL {H : List Blk} {i n : Nat} {c : Cap} {l r : List (Nat → Int)} {ty : TypeId} {kd : BK} {k : Int} (h : H[i]? = some ⟨(l ++ r).flatMap (rowL .i64 2), ty, kd⟩) (hk : kd.mut = true) (hn : n = l.length) (hl : l.length ≤ 1000000) (hk0 : 0 ≤ k ∧ k ≤ 1000000000) :
    Cal Try.prog 27 [.s i 0 n c, .v (.int .i64 k)] H fun u H' => u = .v (.int .i64 (k + (l.length * 2 : Nat))) ∧ H' = H.set i ⟨rowL .i64 (l.length * 2) (mk64 k) ++ r.flatMap (rowL .i64 2), ty, kd⟩ := by
  subst hn
  rw [List.flatMap_append, flat_row .i64 2 (by omega) l] at h
  exact markInt64A2S h hk hl hk0
theorem markInt64A2SO {H : List Blk} {i n : Nat} {c : Cap} {l : List (Nat → Int)} {ty : TypeId} {kd : BK} {k : Int} (h : H[i]? = some ⟨l.flatMap (rowL .i64 2), ty, kd⟩) (hk : kd.mut = true) (hn : n = l.length) (hl : l.length ≤ 1000000) (hk0 : 0 ≤ k ∧ k ≤ 1000000000) :
    Cal Try.prog 27 [.s i 0 n c, .v (.int .i64 k)] H fun u H' => u = .v (.int .i64 (k + (l.length * 2 : Nat))) ∧ H' = H.set i ⟨rowL .i64 (l.length * 2) (mk64 k), ty, kd⟩ := by
  have := markInt64A2SL (r := []) (H := H) (i := i) (n := n) (c := c) (l := l) (ty := ty) (kd := kd) (k := k) (by simpa using h) hk hn hl hk0
  simpa using this

end Go.Proofs.Ytjkkallcgplgmaa


