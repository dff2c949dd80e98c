/- Contracts of functions of the translated program, by the walk. -/
import Derived.Test.YtaekjojblkhfdaaGreatD2
import Derived.Test.YtaekjojblkhfdaaGreatLD
set_option linter.unusedVariables false
set_option linter.unusedSimpArgs false
set_option maxRecDepth 8000
set_option maxHeartbeats 16000000
namespace Go.Proofs.YtaekjojblkhfdaaGreat
open Go Go.Sx
open Go.RowKit
/-- What the source tells next. -/
def nxB (l : List Int) (a : Nat) : Int := if a < l.length then l[a]?.getD 0 else 0
def nxS (l : List Int) (a : Nat) (sd : Int) : Int := IntKind.u64.wrap (IntKind.u64.wrap (IntKind.u64.wrap (sd * 6364136223846793005) + IntKind.u64.wrap (nxB l a)) + 1442695040888963407)
def nxV (l : List Int) (a : Nat) (sd : Int) : Int := if a < l.length then nxB l a else bits .and .u64 ((nxS l a sd).fdiv (2 ^ min 40 64)) 255
theorem u64_range (x : Int) : 0 ≤ IntKind.u64.wrap x ∧ IntKind.u64.wrap x ≤ 18446744073709551615 := by
  unfold IntKind.wrap
  simp only [IntKind.bits, IntKind.signed, Bool.false_and]
  simp
  omega
theorem nxS_range (l : List Int) (a : Nat) (sd : Int) : 0 ≤ nxS l a sd ∧ nxS l a sd ≤ 18446744073709551615 := u64_range _
theorem and255 (x : Int) : 0 ≤ bits .and .u64 x 255 ∧ bits .and .u64 x 255 ≤ 255 := by
  have e : bits .and .u64 x 255 = IntKind.u64.wrap ((BitVec.ofInt 64 x &&& BitVec.ofInt 64 255).toNat : Int) := rfl
  have h : (BitVec.ofInt 64 x &&& BitVec.ofInt 64 255).toNat ≤ 255 := by
    rw [BitVec.toNat_and]
    have : (BitVec.ofInt 64 (255 : Int)).toNat = 255 := by decide
    rw [this]; exact Nat.and_le_right
  rw [e, wrap_u64 (by omega) (by omega)]; omega
theorem nxV_range {l : List Int} (h8 : B8 l) (a : Nat) (sd : Int) : 0 ≤ nxV l a sd ∧ nxV l a sd ≤ 255 := by
  unfold nxV
  split
  · rename_i h
    unfold nxB
    rw [if_pos h, List.getElem?_eq_getElem h]
    exact h8 _ (List.getElem_mem h)
  · exact and255 _
theorem next {H : List Blk} {i a : Nat} {cv : V} {sd : Int} {l : List Int} {k : BK} (h : H[i]? = some ⟨[cv, .v (.int .i64 a), .v (.int .u64 sd)], 85, k⟩) (hk : k.mut = true) (hv : k.live = true) (hr : Rd H cv u8C l) (h8 : B8 l) (hll : l.length ≤ 4096) (ha : a ≤ 1000000) (hs : 0 ≤ sd ∧ sd ≤ 18446744073709551615) :
    Cal Tryz.prog 75 [.p i 0] H fun u H' => u = .v (.int .i64 (nxV l a sd)) ∧ H' = H.set i ⟨[cv, .v (.int .i64 ((a + 1 : Nat) : Int)), .v (.int .u64 (nxS l a sd))], 85, k⟩ := by
  have hsol := hr.solid
  have hL := hr.lenV (P := Tryz.prog) slTy22
  have hlt := (List.getElem?_eq_some_iff.1 h).1
  refine cal_fn 61 mixed Tryz.func75 Tryz.ntmps75 Tryz.results75 rfl rfl rfl fun hw cx hx hq => ?_
  have hget : ∀ b : Blk, (H.set i b)[i]? = some b := fun b => by rw [List.getElem?_set_self hlt]
  by_cases hc : a < l.length
  · obtain ⟨j, off, c, b, rfl, hat, hf⟩ := hr.full (by omega)
    have hfl : (l.flatMap u8C).length = l.length := by rw [flat_u8.flen, Nat.mul_one]
    rw [hfl] at hf
    have an := hat.u8 hc
    have hb8 := h8 _ (List.getElem_mem hc)
    have hnb : nxB l a = l[a] := by unfold nxB; rw [if_pos hc, List.getElem?_eq_getElem hc]; rfl
    have hc1 : ((a : Int) < (l.length : Int)) = True := eq_true (by omega)
    have hc2 : ((a : Int) + 1 ≤ (l.length : Int)) = True := eq_true (by omega)
    repeat (first | (simp only [go_sem, Int.reduceLT, Int.reduceLE, Int.reduceEq, Int.reduceToNat, h, hk, hv, hsol, hL, hlt, hget, List.set_set, hc1, hc2, hat.get, hat.live, an]) | ((with_reducible refine And.intro ?_ ?_); omega) | ((with_reducible refine isWKr (id := 2) ?_); refine WK_drawAt 2 [[],[0],[0,1],[0,1,2],[],[4],[4,5],[4,5,6],[4,5,6,7],[0,1,2,3,4,5,6,7,8]] (by kernel_rfl) ?_) | ((with_reducible refine isWKr (id := 3) ?_); refine WK_drawAt 3 [[],[0],[0,1],[0,1,2],[],[4],[4,5],[4,5,6],[0,1,2,3,4,5,6,7],[0,1,2,3,4,5,6,7,8],[0,1,2,3,4,5,6,7,8,9],[0,1,2,3,4,5,6,7,8,9,10]] (by kernel_rfl) ?_) | ((with_reducible refine isWKr (id := 6) ?_); refine WK_drawAt 6 [[],[0],[0,1],[0,1,2],[],[4],[4,5],[4,5,6],[4,5,6,7],[0,1,2,3,4,5,6,7,8]] (by kernel_rfl) ?_) | ((with_reducible refine And.intro ?_ ?_); first | (with_reducible rfl) | assumption | (simp only [go_sem]; done)))
    refine ret_at hq _ (.inl rfl) (by simp) ?_
    simp [go_sem, nxV, nxS, hnb, hc]
  · have hnb : nxB l a = 0 := by unfold nxB; rw [if_neg hc]
    have hc1 : ((a : Int) < (l.length : Int)) = False := eq_false (by omega)
    have hc2 : ((a : Int) + 1 ≤ (l.length : Int)) = False := eq_false (by omega)
    repeat (first | (simp only [go_sem, Int.reduceLT, Int.reduceLE, Int.reduceEq, Int.reduceToNat, h, hk, hv, hsol, hL, hlt, hget, List.set_set, hc1, hc2]) | ((with_reducible refine And.intro ?_ ?_); omega) | ((with_reducible refine isWKr (id := 2) ?_); refine WK_drawAt 2 [[],[0],[0,1],[0,1,2],[],[4],[4,5],[4,5,6],[4,5,6,7],[0,1,2,3,4,5,6,7,8]] (by kernel_rfl) ?_) | ((with_reducible refine isWKr (id := 3) ?_); refine WK_drawAt 3 [[],[0],[0,1],[0,1,2],[],[4],[4,5],[4,5,6],[0,1,2,3,4,5,6,7],[0,1,2,3,4,5,6,7,8],[0,1,2,3,4,5,6,7,8,9],[0,1,2,3,4,5,6,7,8,9,10]] (by kernel_rfl) ?_) | ((with_reducible refine isWKr (id := 6) ?_); refine WK_drawAt 6 [[],[0],[0,1],[0,1,2],[],[4],[4,5],[4,5,6],[4,5,6,7],[0,1,2,3,4,5,6,7,8]] (by kernel_rfl) ?_) | ((with_reducible refine And.intro ?_ ?_); first | (with_reducible rfl) | assumption | (simp only [go_sem]; done)))
    have h255 := and255 ((IntKind.u64.wrap (IntKind.u64.wrap (IntKind.u64.wrap (sd * 6364136223846793005) + IntKind.u64.wrap 0) + 1442695040888963407)).fdiv (2 ^ min 40 64))
    refine ⟨by omega, ?_⟩
    refine ret_at hq _ (.inl rfl) (by simp) ?_
    simp [go_sem, nxV, nxS, hnb, hc]
/-- What the source picks, below n. -/
def pkV (l : List Int) (a : Nat) (sd n : Int) : Int := (nxV l a sd).tmod n
theorem pkV_range {l : List Int} (h8 : B8 l) (a : Nat) (sd : Int) {n : Int} (hn : 1 ≤ n) : 0 ≤ pkV l a sd n ∧ pkV l a sd n < n := by
  have := nxV_range h8 a sd
  unfold pkV
  exact ⟨Int.tmod_nonneg _ this.1, Int.tmod_lt_of_pos _ (by omega)⟩
theorem pick {H : List Blk} {i a : Nat} {cv : V} {sd n : Int} {l : List Int} {k : BK} (h : H[i]? = some ⟨[cv, .v (.int .i64 a), .v (.int .u64 sd)], 85, k⟩) (hk : k.mut = true) (hv : k.live = true) (hr : Rd H cv u8C l) (h8 : B8 l) (hll : l.length ≤ 4096) (ha : a ≤ 1000000) (hs : 0 ≤ sd ∧ sd ≤ 18446744073709551615) (hn : 2 ≤ n ∧ n ≤ 200) :
    Cal Tryz.prog 53 [.p i 0, .v (.int .i64 n)] H fun u H' => u = .v (.int .i64 (pkV l a sd n)) ∧ H' = H.set i ⟨[cv, .v (.int .i64 ((a + 1 : Nat) : Int)), .v (.int .u64 (nxS l a sd))], 85, k⟩ := by
  have hsol := hr.solid
  have hlt := (List.getElem?_eq_some_iff.1 h).1
  have hr1 := nxV_range h8 a sd
  have c1 : (n ≤ 1) = False := eq_false (by omega)
  have c2 : ((200 : Int) < n) = False := eq_false (by omega)
  have c3 : (n = 0) = False := eq_false (by omega)
  refine cal_fn 18 mixed Tryz.func53 Tryz.ntmps53 Tryz.results53 rfl rfl rfl fun hw cx hx hq => ?_
  repeat (first | (simp only [go_sem, Int.reduceLT, Int.reduceLE, Int.reduceEq, Int.reduceToNat, hsol, hlt, c1, c2, c3]) | ((with_reducible refine And.intro ?_ ?_); omega) | ((with_reducible refine isSK ?_); first | (refine call_ret (next h hk hv hr h8 hll ha hs) (by simp only [go_sem, Int.reduceLT, Int.reduceLE, Int.reduceEq, Int.reduceToNat, hsol, hlt, c1, c2, c3]) ?_)) | ((with_reducible refine And.intro ?_ ?_); first | (with_reducible rfl) | assumption | (simp only [go_sem]; done)))
  refine ret_at hq _ (.inl rfl) (by simp) ?_
  simp [go_sem, pkV]
theorem pick1 {H : List Blk} {i : Nat} {n x : Int} (hi : i < H.length) (hn : n ≤ 1) (h0 : x = 0) : Cal Tryz.prog 53 [.p i 0, .v (.int .i64 n)] H fun u H' => u = .v (.int .i64 x) ∧ H' = H := by
  subst h0
  have c1 : (n ≤ 1) = True := eq_true hn
  refine cal_fn 18 mixed Tryz.func53 Tryz.ntmps53 Tryz.results53 rfl rfl rfl fun hw cx hx hq => ?_
  repeat (first | (simp only [go_sem, Int.reduceLT, Int.reduceLE, Int.reduceEq, Int.reduceToNat, c1]) | ((with_reducible refine And.intro ?_ ?_); omega) | ((with_reducible refine And.intro ?_ ?_); first | (with_reducible rfl) | assumption | (simp only [go_sem]; done)))
  refine ret_same hq _ (.inl rfl) ?_
  simp [go_sem]
theorem one {H : List Blk} {i a : Nat} {cv : V} {sd n : Int} {l : List Int} {k : BK} (h : H[i]? = some ⟨[cv, .v (.int .i64 a), .v (.int .u64 sd)], 85, k⟩) (hk : k.mut = true) (hv : k.live = true) (hr : Rd H cv u8C l) (h8 : B8 l) (hll : l.length ≤ 4096) (ha : a ≤ 1000000) (hs : 0 ≤ sd ∧ sd ≤ 18446744073709551615) (hn : 2 ≤ n ∧ n ≤ 200) :
    Cal Tryz.prog 61 [.p i 0, .v (.int .i64 n)] H fun u H' => u = .v (.bool (decide (pkV l a sd n = 0))) ∧ H' = H.set i ⟨[cv, .v (.int .i64 ((a + 1 : Nat) : Int)), .v (.int .u64 (nxS l a sd))], 85, k⟩ := by
  have hlt := (List.getElem?_eq_some_iff.1 h).1
  refine cal_fn 7 mixed Tryz.func61 Tryz.ntmps61 Tryz.results61 rfl rfl rfl fun hw cx hx hq => ?_
  repeat (first | (simp only [go_sem, Int.reduceLT, Int.reduceLE, Int.reduceEq, Int.reduceToNat, hlt]) | ((with_reducible refine And.intro ?_ ?_); omega) | ((with_reducible refine isSK ?_); first | (refine call_ret (pick h hk hv hr h8 hll ha hs hn) (by simp only [go_sem, Int.reduceLT, Int.reduceLE, Int.reduceEq, Int.reduceToNat, hlt]) ?_)) | ((with_reducible refine And.intro ?_ ?_); first | (with_reducible rfl) | assumption | (simp only [go_sem]; done)))
  refine ret_at hq _ (.inl rfl) (by simp) ?_
  simp [go_sem]
theorem l00From {H : List Blk} {cv : V} {l : List Int} (hr : Rd H cv u8C l) : Cal Tryz.prog 27 [cv] H fun u H' => u = .p H.length 0 ∧ H' = H ++ [⟨[cv, .v (.int .i64 0), .v (.int .u64 0)], 85, .fix⟩] := by
  have hsol := hr.solid
  rcases hr with ⟨rfl, _⟩ | ⟨i, off, c, b, rfl, hat, hf⟩
  · refine cal_fn 5 mixed Tryz.func27 Tryz.ntmps27 Tryz.results27 rfl rfl rfl fun hw cx hx hq => ?_
    repeat (first | (simp only [go_sem, Int.reduceLT, Int.reduceLE, Int.reduceEq, Int.reduceToNat, hsol]) | ((with_reducible refine And.intro ?_ ?_); omega) | ((with_reducible refine And.intro ?_ ?_); first | (with_reducible rfl) | assumption | (simp only [go_sem]; done)))
    refine ret_at hq _ (.inl rfl) (by simp) ?_
    simp [go_sem]
  · refine cal_fn 5 mixed Tryz.func27 Tryz.ntmps27 Tryz.results27 rfl rfl rfl fun hw cx hx hq => ?_
    repeat (first | (simp only [go_sem, Int.reduceLT, Int.reduceLE, Int.reduceEq, Int.reduceToNat, hsol]) | ((with_reducible refine And.intro ?_ ?_); omega) | ((with_reducible refine And.intro ?_ ?_); first | (with_reducible rfl) | assumption | (simp only [go_sem]; done)))
    refine ret_at hq _ (.inl rfl) (by simp) ?_
    simp [go_sem]
theorem P6Pick {H : List Blk} {cv : V} {l : List Int} {n : Int} (hr : Rd H cv u8C l) (h8 : B8 l) (hll : l.length ≤ 4096) (hn : 2 ≤ n ∧ n ≤ 200) : Cal Tryz.prog 19 [cv, .v (.int .i64 n)] H fun u H' => u = .v (.int .i64 (pkV l 0 0 n)) ∧ H' = H := by
  have hsol := hr.solid
  refine cal_fn 7 mixed Tryz.func19 Tryz.ntmps19 Tryz.results19 rfl rfl rfl fun hw cx hx hq => ?_
  repeat (first | (simp only [go_sem, Int.reduceLT, Int.reduceLE, Int.reduceEq, Int.reduceToNat, hsol]) | ((with_reducible refine And.intro ?_ ?_); omega) | ((with_reducible refine isSK ?_); first | (refine call_ret (l00From hr) (by simp only [go_sem, Int.reduceLT, Int.reduceLE, Int.reduceEq, Int.reduceToNat, hsol]) ?_) | (refine call_ret (pick (a := 0) (sd := 0) (l := l) (k := .fix) (by first | exact (Go.Sx.get_at0 _ _).trans rfl | exact (Go.Sx.get_at _ _ 1).trans rfl | exact (Go.Sx.get_at _ _ 2).trans rfl | exact (Go.Sx.get_at _ _ 3).trans rfl | exact (Go.Sx.get_at _ _ 4).trans rfl | exact (Go.Sx.get_at _ _ 5).trans rfl | exact (Go.Sx.get_at _ _ 6).trans rfl | exact (Go.Sx.get_at _ _ 7).trans rfl | exact (Go.Sx.get_at _ _ 8).trans rfl | exact (Go.Sx.get_at _ _ 9).trans rfl | exact (Go.Sx.get_at _ _ 10).trans rfl | exact (Go.Sx.get_at _ _ 11).trans rfl | exact (Go.Sx.get_at _ _ 12).trans rfl | exact (Go.Sx.get_at _ _ 13).trans rfl | exact (Go.Sx.get_at _ _ 14).trans rfl | exact (Go.Sx.get_at _ _ 15).trans rfl) rfl rfl hr.app h8 hll (by omega) (by omega) hn) (by simp only [go_sem, Int.reduceLT, Int.reduceLE, Int.reduceEq, Int.reduceToNat, hsol]) ?_)) | ((with_reducible refine And.intro ?_ ?_); first | (with_reducible rfl) | assumption | (simp only [go_sem]; done)))
  refine ret_cut hq hw _ (.inl rfl) ?_
  simp [go_sem]
theorem f6big {H : List Blk} {cv : V} {l : List Int} (hr : Rd H cv u8C l) : Cal Tryz.prog 4 [cv] H fun u H' => u = .v (.bool (decide (4096 < (l.length : Int)))) ∧ H' = H := by
  have hsol := hr.solid
  have hL := hr.lenV (P := Tryz.prog) slTy22
  refine cal_fn 5 mixed Tryz.func4 Tryz.ntmps4 Tryz.results4 rfl rfl rfl fun hw cx hx hq => ?_
  repeat (first | (simp only [go_sem, Int.reduceLT, Int.reduceLE, Int.reduceEq, Int.reduceToNat, hsol, hL]) | ((with_reducible refine And.intro ?_ ?_); omega) | ((with_reducible refine And.intro ?_ ?_); first | (with_reducible rfl) | assumption | (simp only [go_sem]; done)))
  refine ret_same hq _ (.inl rfl) ?_
  simp [go_sem]
end Go.Proofs.YtaekjojblkhfdaaGreat
