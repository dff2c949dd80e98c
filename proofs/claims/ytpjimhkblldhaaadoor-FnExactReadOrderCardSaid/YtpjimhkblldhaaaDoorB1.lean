/- Contracts of functions of the translated program, by the walk. -/
import Derived.Test.YtpjimhkblldhaaaDoorR1d
import Derived.Test.YtpjimhkblldhaaaDoorLD
set_option linter.unusedVariables false
set_option linter.unusedSimpArgs false
set_option maxRecDepth 8000
set_option maxHeartbeats 4000000
namespace Go.Proofs.YtpjimhkblldhaaaDoor
open Go Go.Sx

def mk64 (k : Int) (c : Nat) : Int := k + c
theorem eqInt64S {H : List Blk} {v v2 : V} {l : List (Int)} (h : Rd H v i64C l) (h2 : Rd H v2 i64C l) (hl : l.length ≤ 1000000000) : Cal Tryd.prog 18 [v, v2] H fun u H' => u = .v (.bool true) ∧ H' = H := by
  have hL := h.lenV (P := Tryd.prog) slTy22
  have hL2 := h2.lenV (P := Tryd.prog) slTy22
  refine cal_fn 24 mixed Tryd.func18 Tryd.ntmps18 Tryd.results18 rfl rfl rfl fun hw cx hx hq => ?_
  simp only [go_sem, hL, hL2]
  repeat (refine And.intro (by omega) ?_)
  refine WK_for (fun n : Nat => ⟨[v, v2, .any, .any, .v (.bool false), .v (.int .i64 n)] ++ junk 20, H⟩) (fun n => n ≤ l.length) (fun n => l.length - n) 0 (Weak.slots ?_) ?_ fun n hn => ?_
  · simp [go_sem]
  · simp
  rcases Int.lt_or_le (n : Int) l.length with hc | hc
  · have hj : n < l.length := by omega
    obtain ⟨i, off, c, bl, rfl, hat⟩ := h.row (by omega)
    obtain ⟨i2, off2, c2, bl2, rfl, hat2⟩ := h2.row (by omega)
    have hfit := hat.fits i64C 1 (fun _ => rfl) hj (by omega)
    have hfit2 := hat2.fits i64C 1 (fun _ => rfl) hj (by omega)
    simp only [go_sem, hc, hat.get, hat.live, hat.i64 hj, hat2.get, hat2.live, hat2.i64 hj]
    repeat (first | (simp only [go_sem, Int.reduceLT, Int.reduceLE, Int.reduceEq, Int.reduceToNat, hat.get, hat.live, hat.i64 hj, hat2.get, hat2.live, hat2.i64 hj]) | ((with_reducible refine And.intro ?_ ?_); omega) | ((with_reducible refine isWKr (id := 6) ?_); refine WK_drawAt 6 [[],[],[0,1],[0,1,2],[],[],[4,5],[4,5,6],[0,1,2,3,4,5,6,7]] (by kernel_rfl) ?_) | ((with_reducible refine And.intro ?_ ?_); first | (with_reducible rfl) | assumption | (simp only [go_sem]; done)))
    refine EK_again (n + 1) (Weak.slots (by simp [go_sem])) (by omega) (by omega)
  · simp only [go_sem, hL, Int.not_lt.2 hc]
    refine ret_same hq _ (.inl rfl) ?_
    simp only [go_sem]

theorem markInt64S {H : List Blk} {i N : Nat} {c : Cap} {F : Nat → Int} {rest : List V} {ty : TypeId} {kd : BK} {k : Int} (h : H[i]? = some ⟨rowL .i64 (N * 1) F ++ rest, ty, kd⟩) (hk : kd.mut = true) (hl : N ≤ 1000000) (hk0 : 0 ≤ k ∧ k ≤ 1000000000) :
    Cal Tryd.prog 19 [.s i 0 N c, .v (.int .i64 k)] H fun u H' => u = .v (.int .i64 (k + (N * 1 : Nat))) ∧ H' = H.set i ⟨rowL .i64 (N * 1) (mk64 k) ++ rest, ty, kd⟩ := by
  have hlt := (List.getElem?_eq_some_iff.1 h).1
  have hgs : ∀ b : Blk, (H.set i b)[i]? = some b := fun b => List.getElem?_set_self hlt
  refine cal_fn 17 mixed Tryd.func19 Tryd.ntmps19 Tryd.results19 rfl rfl rfl fun hw cx hx hq => ?_
  simp only [go_sem]
  refine WK_for (fun n : Nat => ⟨[.s i 0 N c, .v (.int .i64 (k + (n * 1 : Nat))), .any, .any, .any, .v (.int .i64 n)] ++ junk 13, H.set i ⟨rowL .i64 (N * 1) (pfx (mk64 k) F (n * 1)) ++ rest, ty, kd⟩⟩) (fun n => n ≤ N) (fun n => N - n) 0 ?_ ?_ fun n hn => ?_
  · simp only [Nat.zero_mul, pfx_zero, set_get h]
    exact Weak.slots (by simp [go_sem])
  · simp
  rcases Int.lt_or_le (n : Int) N with hc | hc
  · simp only [go_sem, hc]
    try repeat (refine And.intro (by omega) ?_)
    have hw := wr_pfx_app .i64 (mk64 k) F rest (show n < N * 1 by omega) rfl
    simp only [mk64] at hw
    simp only [Nat.mul_one] at hw
    repeat (first | simp only [go_sem, hc, hgs, hk, List.set_set, Nat.mul_one] | refine And.intro (by omega) ?_)
    simp only [hw]
    refine EK_again (n + 1) ?_ (by omega) (by omega)
    exact Weak.slots (by simp [go_sem]; omega)
  · have : n = N := by omega
    subst this
    simp only [go_sem, Int.not_lt.2 hc, pfx_all]
    refine ret_at hq _ (.inl rfl) (by simp) ?_
    simp [go_sem]
theorem heldInt64S {H : List Blk} {i N : Nat} {c : Cap} {b : Blk} {k : Int} (h : At H i 0 (rowL .i64 (N * 1) (mk64 k)) b) (hl : N ≤ 1000000) (hk0 : 0 ≤ k ∧ k ≤ 1000000000) :
    Cal Tryd.prog 20 [.s i 0 N c, .v (.int .i64 k)] H fun u H' => u = .v (.int .i64 (k + (N * 1 : Nat))) ∧ H' = H := by
  refine cal_fn 19 mixed Tryd.func20 Tryd.ntmps20 Tryd.results20 rfl rfl rfl fun hw cx hx hq => ?_
  simp only [go_sem]
  refine WK_for (fun n : Nat => ⟨[.s i 0 N c, .v (.int .i64 (k + (n * 1 : Nat))), .any, .any, .v (.int .i64 0), .v (.int .i64 n)] ++ junk 15, H⟩) (fun n => n ≤ N) (fun n => N - n) 0 (Weak.slots ?_) ?_ fun n hn => ?_
  · simp [go_sem]
  · simp
  rcases Int.lt_or_le (n : Int) N with hc | hc
  · simp only [go_sem, hc]
    try repeat (refine And.intro (by omega) ?_)
    have hcel := h.cel (show n < N * 1 by omega)
    have hlen := h.len (by simp only [go_sem]; omega)
    simp only [go_sem, mk64] at hcel hlen
    repeat (first | simp only [go_sem, hc, h.get, h.live, hcel, Nat.mul_one] | refine And.intro (by omega) ?_)
    refine EK_again (n + 1) ?_ (by omega) (by omega)
    exact Weak.slots (by simp [go_sem]; omega)
  · have : n = N := by omega
    subst this
    simp only [go_sem, Int.not_lt.2 hc]
    refine ret_same hq _ (.inl rfl) ?_
    simp [go_sem]

theorem markInt64SNil {H : List Blk} {k : Int} : Cal Tryd.prog 19 [.v (.slice none 0 0), .v (.int .i64 k)] H fun u H' => u = .v (.int .i64 k) ∧ H' = H := by
  refine cal_fn 17 mixed Tryd.func19 Tryd.ntmps19 Tryd.results19 rfl rfl rfl fun hw cx hx hq => ?_
  simp only [go_sem]
  refine WK_for (fun n : Nat => ⟨[.v (.slice none 0 0), .v (.int .i64 k), .any, .any, .any, .v (.int .i64 0)] ++ junk 13, H⟩) (fun n => n = 0) (fun n => n) 0 (Weak.slots (by simp [go_sem])) rfl fun n hn => ?_
  simp only [go_sem, Int.reduceLT, Int.ofNat_eq_natCast, Int.natCast_zero]
  refine ret_same hq _ (.inl rfl) ?_
  simp [go_sem]
theorem heldInt64SNil {H : List Blk} {k : Int} : Cal Tryd.prog 20 [.v (.slice none 0 0), .v (.int .i64 k)] H fun u H' => u = .v (.int .i64 k) ∧ H' = H := by
  refine cal_fn 19 mixed Tryd.func20 Tryd.ntmps20 Tryd.results20 rfl rfl rfl fun hw cx hx hq => ?_
  simp only [go_sem]
  refine WK_for (fun n : Nat => ⟨[.v (.slice none 0 0), .v (.int .i64 k), .any, .any, .v (.int .i64 0), .v (.int .i64 0)] ++ junk 15, H⟩) (fun n => n = 0) (fun n => n) 0 (Weak.slots (by simp [go_sem])) rfl fun n hn => ?_
  simp only [go_sem, Int.reduceLT, Int.ofNat_eq_natCast, Int.natCast_zero]
  refine ret_same hq _ (.inl rfl) ?_
  simp [go_sem]

end Go.Proofs.YtpjimhkblldhaaaDoor


