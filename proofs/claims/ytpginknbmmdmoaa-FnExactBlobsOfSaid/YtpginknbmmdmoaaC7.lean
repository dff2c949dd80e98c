/- Contracts of functions of the translated program, by the walk. -/
import Derived.Test.YtpginknbmmdmoaaB3
set_option linter.unusedVariables false
set_option linter.unusedSimpArgs false
set_option maxRecDepth 8000
set_option maxHeartbeats 4000000
namespace Go.Proofs.Ytpginknbmmdmoaa
open Go Go.Sx
theorem eqFrameS {H : List Blk} {v v2 : V} {l : List (Nat → Int)} (h : Rd H v (rowL .u16 12) l) (h2 : Rd H v2 (rowL .u16 12) l) (hl : l.length ≤ 1000000000) : Cal Try.prog 49 [v, v2] H fun u H' => u = .v (.bool true) ∧ H' = H := by
  have hL := h.lenV (P := Try.prog) slTy52
  have hL2 := h2.lenV (P := Try.prog) slTy52
  refine cal_fn 25 mixed Try.func49 Try.ntmps49 Try.results49 rfl rfl rfl fun hw cx hx hq => ?_
  simp only [go_sem, hL, hL2]
  repeat (refine And.intro (by omega) ?_)
  refine WK_for (fun n : Nat => ⟨[v, v2, .any, .any, .v (.bool false), .v (.int .i64 n)] ++ junk 21, H⟩) (fun n => n ≤ l.length) (fun n => l.length - n) 0 (Weak.slots ?_) ?_ fun n hn => ?_
  · simp [go_sem]
  · simp
  rcases Int.lt_or_le (n : Int) l.length with hc | hc
  · have hj : n < l.length := by omega
    obtain ⟨i, off, c, bl, rfl, hat⟩ := h.row (by omega)
    obtain ⟨i2, off2, c2, bl2, rfl, hat2⟩ := h2.row (by omega)
    have hfit := hat.fits (rowL .u16 12) 12 (fun _ => rowL_length ..) hj (by omega)
    have hfit2 := hat2.fits (rowL .u16 12) 12 (fun _ => rowL_length ..) hj (by omega)
    simp only [go_sem, hc, hat.get, hat.live, hat.elem (rowL .u16 12) 12 (fun _ => rowL_length ..) hj, hat2.get, hat2.live, hat2.elem (rowL .u16 12) 12 (fun _ => rowL_length ..) hj]
    repeat (first | (simp only [go_sem, Int.reduceLT, Int.reduceLE, Int.reduceEq, Int.reduceToNat, hat.get, hat.live, hat.elem (rowL .u16 12) 12 (fun _ => rowL_length ..) hj, hat2.get, hat2.live, hat2.elem (rowL .u16 12) 12 (fun _ => rowL_length ..) hj]) | ((with_reducible refine And.intro ?_ ?_); omega) | ((with_reducible refine isSK ?_); first | (refine call_ret (eqFrameSelf) (by simp only [go_sem, Int.reduceLT, Int.reduceLE, Int.reduceEq, Int.reduceToNat, hat.get, hat.live, hat.elem (rowL .u16 12) 12 (fun _ => rowL_length ..) hj, hat2.get, hat2.live, hat2.elem (rowL .u16 12) 12 (fun _ => rowL_length ..) hj]) ?_)) | ((with_reducible refine isMC ?_); first | (refine mcall_ret (eqFrameSelf) (by simp only [go_sem, Int.reduceLT, Int.reduceLE, Int.reduceEq, Int.reduceToNat, hat.get, hat.live, hat.elem (rowL .u16 12) 12 (fun _ => rowL_length ..) hj, hat2.get, hat2.live, hat2.elem (rowL .u16 12) 12 (fun _ => rowL_length ..) hj]) (by simp only [go_sem, Int.reduceLT, Int.reduceLE, Int.reduceEq, Int.reduceToNat, hat.get, hat.live, hat.elem (rowL .u16 12) 12 (fun _ => rowL_length ..) hj, hat2.get, hat2.live, hat2.elem (rowL .u16 12) 12 (fun _ => rowL_length ..) hj]) ?_)) | ((with_reducible refine isWKr (id := 6) ?_); refine WK_drawUp 6 [[],[],[0,1],[0,1,2],[],[],[4,5],[4,5,6],[0,1,2,3,4,5,6,7],[0,1,2,3,4,5,6,7,8]] 8 (by kernel_rfl) ?_; dsimp only [List.take, List.drop]) | ((with_reducible refine And.intro ?_ ?_); first | (with_reducible rfl) | assumption | (simp only [go_sem]; done)))
    refine EK_again (n + 1) (Weak.slots (by simp [go_sem])) (by omega) (by omega)
  · simp only [go_sem, hL, Int.not_lt.2 hc]
    refine ret_same hq _ (.inl rfl) ?_
    simp only [go_sem]

theorem markFrameS {H : List Blk} {i N : Nat} {c : Cap} {F : Nat → Int} {rest : List V} {ty : TypeId} {kd : BK} {k : Int} (h : H[i]? = some ⟨rowL .u16 (N * 12) F ++ rest, ty, kd⟩) (hk : kd.mut = true) (hl : N ≤ 1000000) (hk0 : 0 ≤ k ∧ k ≤ 1000000000) :
    Cal Try.prog 50 [.s i 0 N c, .v (.int .i64 k)] H fun u H' => u = .v (.int .i64 (k + (N * 12 : Nat))) ∧ H' = H.set i ⟨rowL .u16 (N * 12) (mk16 k) ++ rest, ty, kd⟩ := by
  have hlt := (List.getElem?_eq_some_iff.1 h).1
  have hgs : ∀ b : Blk, (H.set i b)[i]? = some b := fun b => List.getElem?_set_self hlt
  refine cal_fn 25 mixed Try.func50 Try.ntmps50 Try.results50 rfl rfl rfl fun hw cx hx hq => ?_
  simp only [go_sem]
  refine WK_for (fun n : Nat => ⟨[.s i 0 N c, .v (.int .i64 (k + (n * 12 : Nat))), .any, .any, .any, .v (.int .i64 n)] ++ junk 21, H.set i ⟨rowL .u16 (N * 12) (pfx (mk16 k) F (n * 12)) ++ rest, ty, kd⟩⟩) (fun n => n ≤ N) (fun n => N - n) 0 ?_ ?_ fun n hn => ?_
  · simp only [Nat.zero_mul, pfx_zero, set_get h]
    exact Weak.slots (by simp [go_sem])
  · simp
  rcases Int.lt_or_le (n : Int) N with hc | hc
  · simp only [go_sem, hc]
    try repeat (refine And.intro (by omega) ?_)
    refine WK_for (fun m : Nat => ⟨[.s i 0 N c, .v (.int .i64 (k + (n * 12 + m : Nat))), .any, .any, .any, .v (.int .i64 n), .v (.int .i64 m)] ++ junk 20, H.set i ⟨rowL .u16 (N * 12) (pfx (mk16 k) F (n * 12 + m)) ++ rest, ty, kd⟩⟩) (fun m => m ≤ 12) (fun m => 12 - m) 0 (Weak.slots ?_) ?_ fun m hm => ?_
    · simp [go_sem]
    · simp
    rcases Int.lt_or_le (m : Int) 12 with hc2 | hc2
    · have hin : n * 12 + m < N * 12 := by
        have : (n + 1) * 12 ≤ N * 12 := Nat.mul_le_mul_right _ (by omega)
        omega
      have hw := wr_pfx_app .u16 (mk16 k) F rest hin rfl
      simp only [mk16] at hw
      repeat (first | simp only [go_sem, hc2, hgs, hk, List.set_set] | refine And.intro (by omega) ?_)
      simp only [hw]
      refine EK_again (m + 1) ?_ (by omega) (by omega)
      exact Weak.slots (by simp [go_sem]; omega)
    · have : m = 12 := by omega
      subst this
      simp only [go_sem, Int.not_lt.2 hc2]
      repeat (refine And.intro (by omega) ?_)
      refine EK_again (n + 1) ?_ (by omega) (by omega)
      simp only [Nat.succ_mul]
      exact Weak.slots (by simp [go_sem])
  · have : n = N := by omega
    subst this
    simp only [go_sem, Int.not_lt.2 hc, pfx_all]
    refine ret_at hq _ (.inl rfl) (by simp) ?_
    simp [go_sem]
theorem heldFrameS {H : List Blk} {i N : Nat} {c : Cap} {b : Blk} {k : Int} (h : At H i 0 (rowL .u16 (N * 12) (mk16 k)) b) (hl : N ≤ 1000000) (hk0 : 0 ≤ k ∧ k ≤ 1000000000) :
    Cal Try.prog 51 [.s i 0 N c, .v (.int .i64 k)] H fun u H' => u = .v (.int .i64 (k + (N * 12 : Nat))) ∧ H' = H := by
  refine cal_fn 27 mixed Try.func51 Try.ntmps51 Try.results51 rfl rfl rfl fun hw cx hx hq => ?_
  simp only [go_sem]
  refine WK_for (fun n : Nat => ⟨[.s i 0 N c, .v (.int .i64 (k + (n * 12 : Nat))), .any, .any, .v (.int .i64 0), .v (.int .i64 n)] ++ junk 23, H⟩) (fun n => n ≤ N) (fun n => N - n) 0 (Weak.slots ?_) ?_ fun n hn => ?_
  · simp [go_sem]
  · simp
  rcases Int.lt_or_le (n : Int) N with hc | hc
  · simp only [go_sem, hc]
    try repeat (refine And.intro (by omega) ?_)
    refine WK_for (fun m : Nat => ⟨[.s i 0 N c, .v (.int .i64 (k + (n * 12 + m : Nat))), .any, .any, .v (.int .i64 0), .v (.int .i64 n), .v (.int .i64 m)] ++ junk 22, H⟩) (fun m => m ≤ 12) (fun m => 12 - m) 0 (Weak.slots ?_) ?_ fun m hm => ?_
    · simp [go_sem]
    · simp
    rcases Int.lt_or_le (m : Int) 12 with hc2 | hc2
    · have hin : n * 12 + m < N * 12 := by
        have : (n + 1) * 12 ≤ N * 12 := Nat.mul_le_mul_right _ (by omega)
        omega
      have hcel := h.cel hin
      have hlen := h.len (by simp only [go_sem]; omega)
      simp only [go_sem, mk16] at hcel hlen
      repeat (first | simp only [go_sem, hc2, h.get, h.live, hcel] | refine And.intro (by omega) ?_)
      refine EK_again (m + 1) ?_ (by omega) (by omega)
      exact Weak.slots (by simp [go_sem]; omega)
    · have : m = 12 := by omega
      subst this
      simp only [go_sem, Int.not_lt.2 hc2]
      repeat (refine And.intro (by omega) ?_)
      refine EK_again (n + 1) ?_ (by omega) (by omega)
      simp only [Nat.succ_mul]
      exact Weak.slots (by simp [go_sem])
  · have : n = N := by omega
    subst this
    simp only [go_sem, Int.not_lt.2 hc]
    refine ret_same hq _ (.inl rfl) ?_
    simp [go_sem]

theorem markFrameSNil {H : List Blk} {k : Int} : Cal Try.prog 50 [.v (.slice none 0 0), .v (.int .i64 k)] H fun u H' => u = .v (.int .i64 k) ∧ H' = H := by
  refine cal_fn 25 mixed Try.func50 Try.ntmps50 Try.results50 rfl rfl rfl fun hw cx hx hq => ?_
  simp only [go_sem]
  refine WK_for (fun n : Nat => ⟨[.v (.slice none 0 0), .v (.int .i64 k), .any, .any, .any, .v (.int .i64 0)] ++ junk 21, H⟩) (fun n => n = 0) (fun n => n) 0 (Weak.slots (by simp [go_sem])) rfl fun n hn => ?_
  simp only [go_sem, Int.reduceLT, Int.ofNat_eq_natCast, Int.natCast_zero]
  refine ret_same hq _ (.inl rfl) ?_
  simp [go_sem]
theorem heldFrameSNil {H : List Blk} {k : Int} : Cal Try.prog 51 [.v (.slice none 0 0), .v (.int .i64 k)] H fun u H' => u = .v (.int .i64 k) ∧ H' = H := by
  refine cal_fn 27 mixed Try.func51 Try.ntmps51 Try.results51 rfl rfl rfl fun hw cx hx hq => ?_
  simp only [go_sem]
  refine WK_for (fun n : Nat => ⟨[.v (.slice none 0 0), .v (.int .i64 k), .any, .any, .v (.int .i64 0), .v (.int .i64 0)] ++ junk 23, H⟩) (fun n => n = 0) (fun n => n) 0 (Weak.slots (by simp [go_sem])) rfl fun n hn => ?_
  simp only [go_sem, Int.reduceLT, Int.ofNat_eq_natCast, Int.natCast_zero]
  refine ret_same hq _ (.inl rfl) ?_
  simp [go_sem]

theorem markFrameSL {H : List Blk} {i n : Nat} {c : Cap} {l r : List (Nat → Int)} {ty : TypeId} {kd : BK} {k : Int} (h : H[i]? = some ⟨(l ++ r).flatMap (rowL .u16 12), ty, kd⟩) (hk : kd.mut = true) (hn : n = l.length) (hl : l.length ≤ 1000000) (hk0 : 0 ≤ k ∧ k ≤ 1000000000) :
    Cal Try.prog 50 [.s i 0 n c, .v (.int .i64 k)] H fun u H' => u = .v (.int .i64 (k + (l.length * 12 : Nat))) ∧ H' = H.set i ⟨rowL .u16 (l.length * 12) (mk16 k) ++ r.flatMap (rowL .u16 12), ty, kd⟩ := by
  subst hn
  rw [List.flatMap_append, flat_row .u16 12 (by omega) l] at h
  exact markFrameS h hk hl hk0
theorem markFrameSO {H : List Blk} {i n : Nat} {c : Cap} {l : List (Nat → Int)} {ty : TypeId} {kd : BK} {k : Int} (h : H[i]? = some ⟨l.flatMap (rowL .u16 12), ty, kd⟩) (hk : kd.mut = true) (hn : n = l.length) (hl : l.length ≤ 1000000) (hk0 : 0 ≤ k ∧ k ≤ 1000000000) :
    Cal Try.prog 50 [.s i 0 n c, .v (.int .i64 k)] H fun u H' => u = .v (.int .i64 (k + (l.length * 12 : Nat))) ∧ H' = H.set i ⟨rowL .u16 (l.length * 12) (mk16 k), ty, kd⟩ := by
  have := markFrameSL (r := []) (H := H) (i := i) (n := n) (c := c) (l := l) (ty := ty) (kd := kd) (k := k) (by simpa using h) hk hn hl hk0
  simpa using this
end Go.Proofs.Ytpginknbmmdmoaa

