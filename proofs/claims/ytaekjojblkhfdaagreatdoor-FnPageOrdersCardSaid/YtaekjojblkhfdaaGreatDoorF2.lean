/- Contracts of functions of the translated program, by the walk. -/
import Derived.Test.YtaekjojblkhfdaaGreatDoorDr2b
import Derived.Test.YtaekjojblkhfdaaGreatDoorC6
import Derived.Test.YtaekjojblkhfdaaGreatDoorPl0
import Derived.Test.YtaekjojblkhfdaaGreatDoorLD
import Derived.Test.YtaekjojblkhfdaaGreatDoorBo1
import Derived.RangeFuncBox
import Derived.RangeFuncLeaves
import Derived.RangeFuncWrites
import Derived.RangeFuncKeeps
import Derived.Shelf.Abstract
import Derived.WalkKit
import Derived.OwnWalkIn
import Derived.TacticsInMore
import Derived.LoopNIn
import Derived.LoopIn
import Derived.Maps.AppendAt
import Derived.Shelf.SortM.Plain
import Derived.Shelf.SortM.SortNone
import Derived.Test.YtaekjojblkhfdaaGreatDoorProg
import Derived.KernelRfl
set_option linter.unusedVariables false
set_option linter.unusedSimpArgs false
set_option maxRecDepth 8000
set_option maxHeartbeats 16000000
namespace Go.Proofs.YtaekjojblkhfdaaGreatDoor
open Go Go.Sx
open Go.RowKit
theorem xor16 {a b : Int} (ha : 0 ≤ a ∧ a ≤ 4095) (hb : 0 ≤ b ∧ b ≤ 4095) : 0 ≤ bits .xor .u16 a b ∧ bits .xor .u16 a b ≤ 4095 := by
  rw [u16_xor _ _ ha.1 (by omega) hb.1 (by omega)]
  have := Nat.xor_lt_two_pow (n := 12) (x := a.toNat) (y := b.toNat) (by omega) (by omega)
  omega
theorem f12_upd {f : Nat → Int} (h : F12 f) {j : Nat} {x : Int} (hx : 0 ≤ x ∧ x ≤ 4095) : F12 (Go.Sx.upd f j x) := fun i hi => by
  unfold Go.Sx.upd
  split
  · exact hx
  · exact h i hi
theorem l04Few {H : List Blk} {cv : V} {l : List Int} (hr : Rd H cv u8C l) (h8 : B8 l) (hll : l.length ≤ 4096) :
    Cal Tryz.prog 30 [.p H.length 0] (H ++ [⟨[cv, .v (.int .i64 0), .v (.int .u64 0)], 103, .fix⟩]) fun u H' => ∃ (b : List (Nat → Int)) (j : Nat) (L : List Blk), b.length ≤ 6 ∧ (∀ f ∈ b, F12 f) ∧
      u = .s (H.length + j) 0 b.length (.u 0) ∧ H' = H ++ L ∧ L[j]? = some ⟨b.flatMap (rowL .u16 12), 50, .own 12⟩ := by
  have hsol := hr.solid
  refine cal_fn 46 mixed Tryz.func30 Tryz.ntmps30 Tryz.results30 rfl rfl rfl fun hw cx hx hq => ?_
  have hx2 : cx.n0 = H.length + 1 := by rw [hx]; simp
  have k0 := pkV_range h8 0 0 (n := 7) (by omega)
  repeat (first | (simp only [go_sem, Int.reduceLT, Int.reduceLE, Int.reduceEq, Int.reduceToNat, rowL_rep, rowL_length, hx2]) | ((with_reducible refine isSK ?_); refine call_ret (pick (i := H.length) (a := 0) (sd := 0) (n := 7) (l := l) (k := .fix) (by exact (Go.Sx.get_at0 _ _).trans rfl ) rfl rfl hr.app h8 hll (by omega) (by omega) (by omega)) ?_ ?_) )
  refine WK_for (fun q : (Nat × List (Nat → Int)) × (Nat → Int) × (Nat × Int) => ⟨[.p H.length 0, .any, .any, .s (H.length + 1) 0 q.1.2.length (.u 0), .p (H.length + 2) 0, .v (.int .i64 q.1.1)] ++ junk 41, H ++ [⟨[cv, .v (.int .i64 (q.2.2.1 : Int)), .v (.int .u64 q.2.2.2)], 103, .fix⟩, ⟨q.1.2.flatMap (rowL .u16 12), 50, .own 12⟩, ⟨rowL .u16 12 (q.2.1), 50, .fix⟩]⟩) (fun q => q.1.1 + q.1.2.length ≤ 6 ∧ (∀ f ∈ q.1.2, F12 f) ∧ F12 q.2.1 ∧ q.2.2.1 + 7 * q.1.1 ≤ 50 ∧ (0 ≤ q.2.2.2 ∧ q.2.2.2 ≤ 18446744073709551615)) (fun q => q.1.1) (((pkV l 0 0 7).toNat, []), (zeroF, (1, nxS l 0 0))) (Weak.slots ?_) ?_ fun q hq0 => ?_
  · simp [go_sem, Int.toNat_of_nonneg k0.1]
    trace_state
  · refine ⟨?_, ?_, ?_, ?_, nxS_range _ _ _⟩
    · simp; omega
    · simp
    · intro j _; simp [zeroF]
    · simp; omega
  obtain ⟨⟨kk, acc⟩, ⟨f, ⟨a1, s1⟩⟩⟩ := q
  obtain ⟨hk6, hacc, hf, ha1, hs1⟩ := hq0
  simp only at hk6 hacc hf ha1 hs1 ⊢
  have hla : (acc.flatMap (rowL .u16 12)).length = acc.length * 12 := flat_len _ 12 hz12 acc
  have g1 : norefH (H.length + 1) H := norefH_left hw (by simp)
  have n1 : norefs (H.length + 1) (acc.flatMap (rowL .u16 12)) = true := (flat_rowL .u16 12).norefs _ _
  have hcv1 : V.noref (H.length + 1) cv = true := hr.noref (by omega)
  have hcl : ∀ m, H.length ≤ m → V.lt m cv = True := fun m hm => hr.vlt hm
  have hcl3 := hcl (H.length + 3) (by omega)
  have q1 : (H.length = H.length + 1) = False := eq_false (by omega)
  have q2 : (H.length + 2 = H.length + 1) = False := eq_false (by omega)
  have q3 : (H.length + 3 = H.length + 1) = False := eq_false (by omega)
  have q4 : (H.length + 4 = H.length + 1) = False := eq_false (by omega)
  by_cases hk0 : kk = 0
  · have hz2 : ((0 : Int) < (kk : Int)) = False := eq_false (by omega)
    have hone := one (H := H ++ [⟨[cv, .v (.int .i64 (a1 : Int)), .v (.int .u64 s1)], 103, .fix⟩, ⟨acc.flatMap (rowL .u16 12), 50, .own 12⟩, ⟨rowL .u16 12 (f), 50, .fix⟩]) (i := H.length) (a := a1) (sd := s1) (n := 2) (l := l) (k := .fix) (by exact (Go.Sx.get_at0 _ _).trans rfl ) rfl rfl hr.app h8 hll (by omega) hs1 (by omega)
    have hns := nxS_range l a1 s1
    by_cases h1 : pkV l a1 s1 2 = 0
    · have h1d : decide (pkV l a1 s1 2 = 0) = true := decide_eq_true h1
      rw [h1d] at hone
      repeat (first | (simp only [go_sem, Int.reduceLT, Int.reduceLE, Int.reduceEq, Int.reduceToNat, hz2, hx2]) | ((with_reducible refine isSK ?_); refine call_ret (hone) ?_ ?_) )
      refine call_ex (l04Mixed2 (a := a1 + 1) (n := acc.length) (sd := nxS l a1 s1) (cv := cv) (l := l) hr h8 hll (by omega) hns (by omega)) (by simp only [go_sem]) ?_
      rintro _ _ ⟨o, a', sd', ho, ha', hs', rfl, rfl⟩
      repeat (first | (simp only [go_sem, Int.reduceLT, Int.reduceLE, Int.reduceEq, Int.reduceToNat, hz2, hx2]) | ((with_reducible refine isSK ?_); refine call_ret (l04Pages (l := acc) (o := o) (Rd.own 1 rfl rfl rfl) (Rd.own 3 rfl rfl rfl) ho.2.1 (by have := ho.1; omega)) ?_ ?_) )
      refine ret_at hq _ (.inl rfl) (by simp) ?_
      simp only [go_sem]
      refine ⟨inO acc o, 5, _, by rw [inO_len, ho.1]; omega, inO_12 hacc o, rfl, rfl, rfl⟩
    · have h1d : decide (pkV l a1 s1 2 = 0) = false := decide_eq_false h1
      rw [h1d] at hone
      repeat (first | (simp only [go_sem, Int.reduceLT, Int.reduceLE, Int.reduceEq, Int.reduceToNat, hz2, hx2]) | ((with_reducible refine isSK ?_); refine call_ret (hone) ?_ ?_) )
      refine ret_at hq _ (.inl rfl) (by simp) ?_
      simp only [go_sem]
      refine ⟨acc, 1, _, by omega, hacc, rfl, rfl, rfl⟩
  have hz2 : ((0 : Int) < (kk : Int)) = True := eq_true (by omega)
  have k3 := pkV_range h8 a1 s1 (n := 3) (by omega)
  have hns := nxS_range l a1 s1
  obtain ⟨n3, hn3⟩ : ∃ n3 : Nat, pkV l a1 s1 3 = n3 := ⟨(pkV l a1 s1 3).toNat, by omega⟩
  rw [hn3] at k3
  repeat (first | (simp only [go_sem, Int.reduceLT, Int.reduceLE, Int.reduceEq, Int.reduceToNat, hz2, hx2, hn3]) | ((with_reducible refine And.intro ?_ ?_); omega) | ((with_reducible refine isSK ?_); refine call_ret (pick (i := H.length) (a := a1) (sd := s1) (n := 3) (l := l) (k := .fix) (by exact (Go.Sx.get_at0 _ _).trans rfl ) rfl rfl hr.app h8 hll (by omega) hs1 (by omega)) ?_ ?_) )
  refine WK_for (fun q : Nat × (Nat → Int) × (Nat × Int) => ⟨[.p H.length 0, .any, .any, .s (H.length + 1) 0 acc.length (.u 0), .p (H.length + 2) 0, .v (.int .i64 kk), .v (.int .i64 q.1)] ++ junk 40, H ++ [⟨[cv, .v (.int .i64 (q.2.2.1 : Int)), .v (.int .u64 q.2.2.2)], 103, .fix⟩, ⟨acc.flatMap (rowL .u16 12), 50, .own 12⟩, ⟨rowL .u16 12 (q.2.1), 50, .fix⟩]⟩) (fun q => q.1 ≤ 3 ∧ F12 q.2.1 ∧ q.2.2.1 + 2 * q.1 + 7 * (kk - 1) ≤ 50 ∧ (0 ≤ q.2.2.2 ∧ q.2.2.2 ≤ 18446744073709551615)) (fun q => q.1) (n3 + 1, (f, (a1 + 1, nxS l a1 s1))) (Weak.slots ?_) ?_ fun q hq1 => ?_
  · simp [go_sem, Int.add_comm]
  · exact ⟨by dsimp only; omega, hf, by dsimp only; omega, hns⟩
  obtain ⟨nn, ⟨f2, ⟨a2, s2⟩⟩⟩ := q
  obtain ⟨hn2, hf2, ha2, hs2⟩ := hq1
  simp only at hn2 hf2 ha2 hs2 ⊢
  by_cases hnn : nn = 0
  · have hz3 : ((0 : Int) < (nn : Int)) = False := eq_false (by omega)
    repeat (first | (simp only [go_sem, Int.reduceLT, Int.reduceLE, Int.reduceEq, Int.reduceToNat, hz3, hx2, rowL_rep, rowL_length, hla, g1, n1, hcv1, q1, q2, q3, q4]) | ((with_reducible refine And.intro ?_ ?_); omega) )
    refine EK_again ((kk - 1, acc ++ [f2]), (f2, (a2, s2))) ?_ ⟨by dsimp only; rw [List.length_append, List.length_singleton]; omega, fun g hg => ?_, hf2, by dsimp only; omega, hs2⟩ (by dsimp only; omega)
    · have e4 : ((kk - 1 : Nat) : Int) = (kk : Int) - 1 := by omega
      dsimp only
      rw [e4, List.flatMap_append, List.flatMap_singleton, List.length_append, List.length_singleton]
      exact Weak.keepN rfl (by simp [go_sem] <;> omega) (by simp [hx]) (by simp [go_sem] <;> omega) (hw.re (by simp) (by simp [go_sem, hcl3, (flat_rowL .u16 12).lts]))
    · rcases List.mem_append.1 hg with hg | hg
      · exact hacc g hg
      · simp at hg; subst hg; exact hf2
  have hz3 : ((0 : Int) < (nn : Int)) = True := eq_true (by omega)
  have k4 := pkV_range h8 a2 s2 (n := 4) (by omega)
  have hns4 := nxS_range l a2 s2
  have k5 := pkV_range h8 (a2 + 1) (nxS l a2 s2) (n := 3) (by omega)
  have hns5 := nxS_range l (a2 + 1) (nxS l a2 s2)
  obtain ⟨x, hx4⟩ : ∃ x : Nat, pkV l a2 s2 4 = x := ⟨(pkV l a2 s2 4).toNat, by omega⟩
  obtain ⟨y, hy3⟩ : ∃ y : Nat, pkV l (a2 + 1) (nxS l a2 s2) 3 = y := ⟨(pkV l (a2 + 1) (nxS l a2 s2) 3).toNat, by omega⟩
  rw [hx4] at k4
  rw [hy3] at k5
  have hwx : IntKind.u64.wrap (x : Int) = x := wrap_u64 (by omega) (by omega)
  have hy12 : y < 12 := by omega
  repeat (first | (simp only [go_sem, Int.reduceLT, Int.reduceLE, Int.reduceEq, Int.reduceToNat, hz3, hx2, hx4, hy3, hwx, rowL_cel _ _ _ hy12, rowL_wr _ _ _ hy12]) | ((with_reducible refine And.intro ?_ ?_); omega) | ((with_reducible refine isSK ?_); first | refine call_ret (pick (i := H.length) (a := a2) (sd := s2) (n := 4) (l := l) (k := .fix) (by exact (Go.Sx.get_at0 _ _).trans rfl ) rfl rfl hr.app h8 hll (by omega) hs2 (by omega)) ?_ ?_ | refine call_ret (pick (i := H.length) (a := a2 + 1) (sd := (nxS l a2 s2)) (n := 3) (l := l) (k := .fix) (by exact (Go.Sx.get_at0 _ _).trans rfl ) rfl rfl hr.app h8 hll (by omega) hns4 (by omega)) ?_ ?_) )
  have h2x : 0 ≤ IntKind.u16.wrap (1 * 2 ^ min x 16) ∧ IntKind.u16.wrap (1 * 2 ^ min x 16) ≤ 4095 := by
    have : x = 0 ∨ x = 1 ∨ x = 2 ∨ x = 3 := by omega
    rcases this with rfl | rfl | rfl | rfl <;> decide
  refine EK_again (nn - 1, (upd f2 y (bits .xor .u16 (f2 y) (IntKind.u16.wrap (1 * 2 ^ min x 16))), (a2 + 2, nxS l (a2 + 1) (nxS l a2 s2)))) (Weak.slots ?_) ⟨by dsimp only; omega, f12_upd hf2 (xor16 (hf2 y hy12) h2x), by dsimp only; omega, hns5⟩ (by dsimp only; omega)
  have e4 : ((nn - 1 : Nat) : Int) = (nn : Int) - 1 := by omega
  simp [go_sem, e4]
theorem P6Book {H : List Blk} {cv : V} {l : List Int} (hr : Rd H cv u8C l) (h8 : B8 l) (hll : l.length ≤ 4096) :
    Cal Tryz.prog 5 [cv] H fun u H' => ∃ b : List (Nat → Int), b.length ≤ 6 ∧ (∀ f ∈ b, F12 f) ∧ u = .s H.length 0 b.length (.u 0) ∧ H' = H ++ [⟨b.flatMap (rowL .u16 12), 50, .own 12⟩] := by
  have hsol := hr.solid
  refine cal_fn 5 mixed Tryz.func5 Tryz.ntmps5 Tryz.results5 rfl rfl rfl fun hw cx hx hq => ?_
  repeat (first | (simp only [go_sem, Int.reduceLT, Int.reduceLE, Int.reduceEq, Int.reduceToNat, hsol]) | ((with_reducible refine isSK ?_); refine call_ret (l00From hr) ?_ ?_) )
  refine call_ex (l04Few hr h8 hll) (by simp only [go_sem]) ?_
  rintro _ _ ⟨b, j, L, h6, h12, rfl, rfl, hL⟩
  repeat ((simp only [go_sem, Int.reduceLT, Int.reduceLE, Int.reduceEq, Int.reduceToNat, hsol]) )
  refine ret_one hq hw _ (.inl rfl) j hL (by rw [(flat_rowL .u16 12).lts]; trivial) (.s H.length 0 b.length (.u 0)) (by simp [go_sem]) ?_
  simp only [go_sem]
  refine ⟨by simp [conc, upσ, Cap.val], b, h6, h12, rfl, rfl⟩
end Go.Proofs.YtaekjojblkhfdaaGreatDoor
namespace Go.Proofs.YtaekjojblkhfdaaGreatDoor
open Go Go.Sx
theorem l02Same {H : List Blk} {v v2 : V} {l : List (Nat → Int)} (h : Rd H v (rowL .u16 12) l) (h2 : Rd H v2 (rowL .u16 12) l) (hl : l.length ≤ 1000000000) : Cal Tryz.prog 66 [v, v2] H fun u H' => u = .v (.bool true) ∧ H' = H := by
  have hsol := h.solid
  have hsol2 := h2.solid
  have hL := h.lenV (P := Tryz.prog) slTy25
  have hL2 := h2.lenV (P := Tryz.prog) slTy25
  refine cal_fn 24 mixed Tryz.func66 Tryz.ntmps66 Tryz.results66 rfl rfl rfl fun hw cx hx hq => ?_
  repeat ((simp only [go_sem, Int.reduceLT, Int.reduceLE, Int.reduceEq, Int.reduceToNat, hsol, hsol2, hL, hL2]) )
  refine WK_for (fun n : Nat => ⟨[v, v2, .any, .any, .any, .v (.int .i64 n)] ++ junk 20, H⟩) (fun n => n ≤ l.length) (fun n => l.length - n) 0 (Weak.slots ?_) ?_ fun n hn => ?_
  · simp [go_sem]
  · simp
  rcases Int.lt_or_le (n : Int) l.length with hc | hc
  · have hj : n < l.length := by omega
    obtain ⟨i, off, c, bl, rfl, hat⟩ := h.row (by omega)
    obtain ⟨i2, off2, c2, bl2, rfl, hat2⟩ := h2.row (by omega)
    have hfit := hat.fits (rowL .u16 12) 12 (fun _ => rowL_length ..) hj (by omega)
    have hfit2 := hat2.fits (rowL .u16 12) 12 (fun _ => rowL_length ..) hj (by omega)
    have e1 := hat.elem (rowL .u16 12) 12 hz12 hj
    have e2 := hat2.elem (rowL .u16 12) 12 hz12 hj
    repeat (first | (simp only [go_sem, Int.reduceLT, Int.reduceLE, Int.reduceEq, Int.reduceToNat, hL, hL2, hc, hat.lt, hat.get, hat.live, e1, hat2.lt, hat2.get, hat2.live, e2, allEq_self]) | ((with_reducible refine And.intro ?_ ?_); omega) | ((with_reducible refine isWKr (id := 6) ?_); refine WK_drawAt 6 [[],[],[0,1],[0,1,2],[],[],[4,5],[4,5,6],[0,1,2,3,4,5,6,7]] (by kernel_rfl) ?_) )
    refine EK_again (n + 1) (Weak.slots (by simp [go_sem])) (by omega) (by omega)
  · repeat ((simp only [go_sem, Int.reduceLT, Int.reduceLE, Int.reduceEq, Int.reduceToNat, hL, Int.not_lt.2 hc]) )
    refine ret_same hq _ (.inl rfl) ?_
    simp [go_sem]
theorem sameBook {H : List Blk} {v v2 : V} {l : List (Nat → Int)} (h : Rd H v (rowL .u16 12) l) (h2 : Rd H v2 (rowL .u16 12) l) (hl : l.length ≤ 1000000000) : Cal Tryz.prog 23 [v, v2] H fun u H' => u = .v (.bool true) ∧ H' = H := by
  have hsol := h.solid
  have hsol2 := h2.solid
  refine cal_fn 6 mixed Tryz.func23 Tryz.ntmps23 Tryz.results23 rfl rfl rfl fun hw cx hx hq => ?_
  repeat (first | (simp only [go_sem, Int.reduceLT, Int.reduceLE, Int.reduceEq, Int.reduceToNat, hsol, hsol2]) | ((with_reducible refine isSK ?_); refine call_ret (l02Same h h2 hl) ?_ ?_) )
  refine ret_same hq _ (.inl rfl) ?_
  simp [go_sem]
theorem okF_12 {f : Nat → Int} (h : F12 f) : okF f = true := (okF_iff f).2 fun j hj => (h j hj).2
theorem okB_len {l : List (Nat → Int)} (h : ∀ f ∈ l, F12 f) (hl : l.length ≤ 40) : okB l = true := okB_iff.2 ⟨hl, List.all_eq_true.2 fun f hf => okF_12 (h f hf)⟩
def pk1 (l : List Int) (n : Int) : Int := if n ≤ 1 then 0 else pkV l 0 0 n
theorem pk1_range {l : List Int} (h8 : B8 l) {n : Int} (hn : 1 ≤ n) : 0 ≤ pk1 l n ∧ pk1 l n < n := by
  unfold pk1
  split
  · omega
  · exact pkV_range h8 0 0 (by omega)
theorem pickNo {H : List Blk} {i : Nat} {n : Int} (hn : n ≤ 1) : Cal Tryz.prog 67 [.p i 0, .v (.int .i64 n)] H fun u H' => u = .v (.int .i64 0) ∧ H' = H := by
  have e1 : (n ≤ 1) = True := eq_true hn
  refine cal_fn 18 mixed Tryz.func67 Tryz.ntmps67 Tryz.results67 rfl rfl rfl fun hw cx hx hq => ?_
  repeat ((simp only [go_sem, Int.reduceLT, Int.reduceLE, Int.reduceEq, Int.reduceToNat, e1]) )
  refine ret_same hq _ (.inl rfl) ?_
  simp [go_sem]
theorem P6PickE {H : List Blk} {cv : V} {l : List Int} {n : Int} (hr : Rd H cv u8C l) (h8 : B8 l) (hll : l.length ≤ 4096) (hn : n ≤ 200) : Cal Tryz.prog 24 [cv, .v (.int .i64 n)] H fun u H' => u = .v (.int .i64 (pk1 l n)) ∧ H' = H := by
  by_cases h1 : n ≤ 1
  · have hsol := hr.solid
    have e : pk1 l n = 0 := if_pos h1
    refine cal_fn 7 mixed Tryz.func24 Tryz.ntmps24 Tryz.results24 rfl rfl rfl fun hw cx hx hq => ?_
    repeat (first | (simp only [go_sem, Int.reduceLT, Int.reduceLE, Int.reduceEq, Int.reduceToNat, hsol]) | ((with_reducible refine isSK ?_); first | refine call_ret (l00From hr) ?_ ?_ | refine call_ret (pickNo h1) ?_ ?_) )
    refine ret_cut hq hw _ (.inl rfl) ?_
    simp [go_sem, e]
  · have e : pk1 l n = pkV l 0 0 n := if_neg h1
    rw [e]
    exact P6Pick hr h8 hll ⟨by omega, hn⟩
theorem P6Order {H : List Blk} {cv : V} {l : List Int} {n : Nat} (hr : Rd H cv u8C l) (h8 : B8 l) (hll : l.length ≤ 4096) (hn : n ≤ 40) :
    Cal Tryz.prog 6 [cv, .v (.int .i64 n)] H fun u H' => ∃ o : List Int, OrdP o n ∧ u = .s H.length 0 o.length (.u 0) ∧ H' = H ++ [⟨o.flatMap i64C, 2, .own 1⟩] := by
  have hsol := hr.solid
  refine cal_fn 7 mixed Tryz.func6 Tryz.ntmps6 Tryz.results6 rfl rfl rfl fun hw cx hx hq => ?_
  repeat (first | (simp only [go_sem, Int.reduceLT, Int.reduceLE, Int.reduceEq, Int.reduceToNat, hsol]) | ((with_reducible refine isSK ?_); refine call_ret (l00From hr) ?_ ?_) )
  refine call_ex (l04Mixed0 (a := 0) (sd := 0) hr h8 hll (by omega) (by omega) hn) (by simp only [go_sem]) ?_
  rintro _ _ ⟨o, a', sd', ho, _, _, rfl, rfl⟩
  repeat ((simp only [go_sem, Int.reduceLT, Int.reduceLE, Int.reduceEq, Int.reduceToNat, hsol]) )
  refine ret_one hq hw _ (.inl rfl) 1 rfl (of_eq_true (flat_i64.lts _ _)) (.s H.length 0 o.length (.u 0)) (by simp [go_sem]) ?_
  simp only [go_sem]
  exact ⟨by simp [conc, upσ, Cap.val], o, ho, rfl, rfl⟩
theorem differBy {H : List Blk} {f g : Nat → Int} (hf : F12 f) (hg : F12 g) : Cal Tryz.prog 29 [.a (rowL .u16 12 (f)), .a (rowL .u16 12 (g))] H fun u H' => u = .t [.v (.int .i64 (jumpF f g)), .v (.int .i64 0)] ∧ H' = H := by
  have e' : (okF f && okF g) = true := by rw [okF_12 hf, okF_12 hg]; rfl
  refine cal_fn 12 mixed Tryz.func29 Tryz.ntmps29 Tryz.results29 rfl rfl rfl fun hw cx hx hq => ?_
  repeat (first | (simp only [go_sem, Int.reduceLT, Int.reduceLE, Int.reduceEq, Int.reduceToNat, e', rowL_rep]) | ((with_reducible refine isSK ?_); first | refine call_ret (areFrames2 (by exact At.mk' 2 rfl rfl )) ?_ ?_ | refine call_ret (jump hf hg) ?_ ?_) )
  refine ret_cut hq hw _ (.inl rfl) ?_
  simp [go_sem]
theorem l00Same {H : List Blk} {v v2 : V} {l : List (Int)} (h : Rd H v i64C l) (h2 : Rd H v2 i64C l) (hl : l.length ≤ 1000000000) : Cal Tryz.prog 63 [v, v2] H fun u H' => u = .v (.bool true) ∧ H' = H := by
  have hsol := h.solid
  have hsol2 := h2.solid
  have hL := h.lenV (P := Tryz.prog) slTy27
  have hL2 := h2.lenV (P := Tryz.prog) slTy27
  refine cal_fn 24 mixed Tryz.func63 Tryz.ntmps63 Tryz.results63 rfl rfl rfl fun hw cx hx hq => ?_
  repeat ((simp only [go_sem, Int.reduceLT, Int.reduceLE, Int.reduceEq, Int.reduceToNat, hsol, hsol2, hL, hL2]) )
  refine WK_for (fun n : Nat => ⟨[v, v2, .any, .any, .any, .v (.int .i64 n)] ++ junk 20, H⟩) (fun n => n ≤ l.length) (fun n => l.length - n) 0 (Weak.slots ?_) ?_ fun n hn => ?_
  · simp [go_sem]
  · simp
  rcases Int.lt_or_le (n : Int) l.length with hc | hc
  · have hj : n < l.length := by omega
    obtain ⟨i, off, c, bl, rfl, hat⟩ := h.row (by omega)
    obtain ⟨i2, off2, c2, bl2, rfl, hat2⟩ := h2.row (by omega)
    have hfit := hat.fits i64C 1 (fun _ => rfl) hj (by omega)
    have hfit2 := hat2.fits i64C 1 (fun _ => rfl) hj (by omega)
    have e1 := hat.i64 hj
    have e2 := hat2.i64 hj
    repeat (first | (simp only [go_sem, Int.reduceLT, Int.reduceLE, Int.reduceEq, Int.reduceToNat, hL, hL2, hc, hat.lt, hat.get, hat.live, e1, hat2.lt, hat2.get, hat2.live, e2, allEq_self]) | ((with_reducible refine And.intro ?_ ?_); omega) | ((with_reducible refine isWKr (id := 6) ?_); refine WK_drawAt 6 [[],[],[0,1],[0,1,2],[],[],[4,5],[4,5,6],[0,1,2,3,4,5,6,7]] (by kernel_rfl) ?_) )
    refine EK_again (n + 1) (Weak.slots (by simp [go_sem])) (by omega) (by omega)
  · repeat ((simp only [go_sem, Int.reduceLT, Int.reduceLE, Int.reduceEq, Int.reduceToNat, hL, Int.not_lt.2 hc]) )
    refine ret_same hq _ (.inl rfl) ?_
    simp [go_sem]
theorem sameNumbers {H : List Blk} {v v2 : V} {l : List (Int)} (h : Rd H v i64C l) (h2 : Rd H v2 i64C l) (hl : l.length ≤ 1000000000) : Cal Tryz.prog 18 [v, v2] H fun u H' => u = .v (.bool true) ∧ H' = H := by
  have hsol := h.solid
  have hsol2 := h2.solid
  refine cal_fn 6 mixed Tryz.func18 Tryz.ntmps18 Tryz.results18 rfl rfl rfl fun hw cx hx hq => ?_
  repeat (first | (simp only [go_sem, Int.reduceLT, Int.reduceLE, Int.reduceEq, Int.reduceToNat, hsol, hsol2]) | ((with_reducible refine isSK ?_); refine call_ret (l00Same h h2 hl) ?_ ?_) )
  refine ret_same hq _ (.inl rfl) ?_
  simp [go_sem]
theorem implAllJumps {H : List Blk} {v : V} {l : List (Nat → Int)} (h : Rd H v (rowL .u16 12) l) (h12 : ∀ f ∈ l, F12 f) (hok : okB l = true) :
    Cal Tryz.prog 17 [v] H fun u H' => u = .t [.v (.int .i64 (allJ l)), .v (.int .i64 0)] ∧ H' = H := by
  have hsol := h.solid
  have h40 := (okB_iff.1 hok).1
  refine cal_fn 8 mixed Tryz.func17 Tryz.ntmps17 Tryz.results17 rfl rfl rfl fun hw cx hx hq => ?_
  repeat (first | (simp only [go_sem, Int.reduceLT, Int.reduceLE, Int.reduceEq, Int.reduceToNat, hsol, hok]) | ((with_reducible refine isSK ?_); first | refine call_ret (validBook h (by omega)) ?_ ?_ | refine call_ret (allJumps h h12 (by omega)) ?_ ?_) )
  refine ret_same hq _ (.inl rfl) ?_
  simp [go_sem]
end Go.Proofs.YtaekjojblkhfdaaGreatDoor
namespace Go.Proofs.YtaekjojblkhfdaaGreatDoor
open Go Go.RowKit Go.Shelf Go.Proofs
attribute [local go_sem] Oper.semAt_some
def upto {α : Type} (f : Nat → α) (k : Nat) : List α := (List.range k).map f
theorem upto_succ {α : Type} (f : Nat → α) (k : Nat) : upto f (k + 1) = upto f k ++ [f k] := by simp [upto, List.range_succ]
theorem upto_length {α : Type} (f : Nat → α) (k : Nat) : (upto f k).length = k := by simp [upto]
theorem upto_all (zs : List Int) : upto (fun j => zs[j]?.getD 0) zs.length = zs := by
  apply List.ext_getElem
  · simp [upto]
  · intro i h1 h2
    simp [upto, h2]
theorem upto_take (zs : List Int) {k : Nat} (hk : k ≤ zs.length) : upto (fun j => zs[j]?.getD 0) k = zs.take k := by
  apply List.ext_getElem
  · simp [upto, hk]
  · intro i h1 h2
    have : i < zs.length := by simp [upto] at h1; omega
    simp [upto, this]
set_option maxRecDepth 100000 in
set_option maxHeartbeats 2000000 in
theorem values1 (n : Nat) (hn : 1 ≤ n) (l Bs n₀ b off len cap : Nat) (zs : List Int) (hreach : len * 8 ≤ 140737488351232) (hb : b < n₀) (J Jx : List Int → World → Prop)
    (hY : ∀ pre x W, J pre W → pre.length < len → YieldAt Fence.wide (n - 1) Tryz.prog l #[.int .i64 x] W fun e W' =>
      (e = .returned (.bool true) ∧ J (pre ++ [x]) W' ∧ Below n₀ W W') ∨ (e = .returned (.bool false) ∧ Jx (pre ++ [x]) W'))
    (W : World) (hBs : W.cell? ⟨Bs, 0, none⟩ = some (.slice (some ⟨b, off, none⟩) len cap)) (hc : ∀ j, j < len → W.cell? ⟨b, off + j, none⟩ = some (.int .i64 (zs[j]?.getD 0))) (h0 : J [] W) :
    CallsIn Fence.wide n Tryz.prog 108 #[.func (.yield l) #[] #[], .pointer (some ⟨Bs, 0, none⟩)] W fun e W' => (∃ v, e = .returned v) ∧
      ((∃ ys, ys = upto (fun j => zs[j]?.getD 0) len ∧ J ys W') ∨ (∃ pre, (∃ k, k ≤ len ∧ pre = upto (fun j => zs[j]?.getD 0) k) ∧ Jx pre W')) := by
  refine callsIn_of_wp Tryz.func108 rfl trivial ?_ rfl
  simp only [Tryz.ntmps108, List.size_toArray, List.length_cons, List.length_nil, Nat.reduceAdd, Nat.reduceSub, Array.replicate_succ, Array.replicate_zero, List.push_toArray, List.append_toArray, List.nil_append, List.cons_append]
  gi_wp2
  gi_loopw [7] (fun i wr => ∃ k : Nat, k ≤ len ∧ i = .int .i64 k ∧ J (upto (fun j => zs[j]?.getD 0) k) wr ∧ Below n₀ W wr)
    (fun i _ => len - (intOf i).toNat)
  case atStart => exact ⟨0, Nat.zero_le _, rfl, h0, Below.refl _ _⟩
  case round =>
    obtain ⟨k, hk, rfl, hJs, hnx⟩ := hrel
    have hcx : k < len → wr.cell? ⟨b, off + k, none⟩ = some (.int .i64 (zs[k]?.getD 0)) := fun h => (hnx.cell (p := ⟨b, off + k, none⟩) hb).trans (hc k h)
    by_cases hlt : k < len
    · obtain ⟨fn, tmps, assign, body, hy, hR⟩ := hY _ (zs[k]?.getD 0) wr hJs (by rw [upto_length]; exact hlt)
      have hcx' := hcx hlt
      gi_wp2
      refine hR.mono ?_
      rintro e W3 (⟨rfl, hJ3, hk3⟩ | ⟨rfl, hJx3⟩)
      · gi_wp2
        go_roundw
        case rel => exact ⟨k + 1, by omega, by simp, by rw [upto_succ]; exact hJ3, hnx.trans hk3⟩
        case measure => simp [intOf]; omega
      · gi_wp2
        refine bodyPost_ret (results_none rfl _ _ _) rfl ?_
        exact ⟨⟨_, rfl⟩, .inr ⟨_, ⟨k + 1, by omega, (upto_succ _ _).symm⟩, hJx3⟩⟩
    · obtain rfl : k = len := by omega
      gi_wp2
      go_end0
      exact ⟨⟨_, rfl⟩, .inl ⟨_, rfl, hJs⟩⟩
def Ints (n₀ : Nat) (W : World) (sv : Value) (zs : List Int) : Prop :=
  (sv = .slice none 0 0 ∧ zs = []) ∨ ∃ b off cap, sv = .slice (some ⟨b, off, none⟩) zs.length cap ∧ b < n₀ ∧ ∀ j, j < zs.length → W.cell? ⟨b, off + j, none⟩ = some (.int .i64 (zs[j]?.getD 0))
theorem Ints.below {n₀ : Nat} {A B : World} (h : Below n₀ A B) {sv : Value} {zs : List Int} : Ints n₀ A sv zs → Ints n₀ B sv zs
  | .inl e => .inl e
  | .inr ⟨b, off, cap, e, hb, hc⟩ => .inr ⟨b, off, cap, e, hb, fun j hj => (h.cell (p := ⟨b, off + j, none⟩) hb).trans (hc j hj)⟩
set_option maxRecDepth 100000 in
set_option maxHeartbeats 1000000 in
theorem values1_nil (n : Nat) (l Bs : Nat) (J : List Int → World → Prop) (W : World) (hBs : W.cell? ⟨Bs, 0, none⟩ = some (.slice none 0 0)) (h0 : J [] W) :
    CallsIn Fence.wide n Tryz.prog 108 #[.func (.yield l) #[] #[], .pointer (some ⟨Bs, 0, none⟩)] W fun e W' => (∃ v, e = .returned v) ∧ J [] W' := by
  refine callsIn_of_wp Tryz.func108 rfl trivial ?_ rfl
  simp only [Tryz.ntmps108, List.size_toArray, List.length_cons, List.length_nil, Nat.reduceAdd, Nat.reduceSub, Array.replicate_succ, Array.replicate_zero, List.push_toArray, List.append_toArray, List.nil_append, List.cons_append]
  gi_wp2
  gi_loopw [7] (fun i wr => i = .int .i64 0 ∧ J [] wr) (fun _ _ => 0)
  case atStart => exact ⟨rfl, h0⟩
  case round =>
    obtain ⟨rfl, hJs⟩ := hrel
    gi_wp2
    go_end0
    exact ⟨⟨_, rfl⟩, hJs⟩
theorem values_stops (n : Nat) (hn : 1 ≤ n) (Bs n₀ : Nat) (sv : Value) (zs : List Int) (hreach : zs.length * 8 ≤ 140737488351232) (w : World) (hBs : Bs < w.heap.size) (hn₀ : n₀ ≤ w.heap.size)
    (hc : w.cell? ⟨Bs, 0, none⟩ = some sv) (hI : Ints n₀ w sv zs) :
    SeqStopsK Fence.wide n Tryz.prog 108 #[.pointer (some ⟨Bs, 0, none⟩)] (fun x : Int => #[Value.int .i64 x]) (Below n₀) (fun ys => ys = zs) (fun pre => pre <+: zs) zs.length w := fun l J Jx W hW _ _ hY h0 => by
  have hc' := (hW.cell (p := ⟨Bs, 0, none⟩) hBs).trans hc
  rcases hI.below (hW.mono hn₀) with ⟨rfl, rfl⟩ | ⟨b, off, cap, rfl, hb, hcs⟩
  · exact (values1_nil n l Bs J W hc' h0).mono fun e W' ⟨he, hj⟩ => ⟨he, .inl ⟨_, rfl, hj⟩⟩
  · refine (values1 n hn l Bs n₀ b off zs.length cap zs hreach hb J Jx hY W hc' hcs h0).mono ?_
    rintro e W' ⟨he, ⟨ys, rfl, hj⟩ | ⟨pre, ⟨k, hk, rfl⟩, hj⟩⟩
    · exact ⟨he, .inl ⟨_, upto_all zs, hj⟩⟩
    · exact ⟨he, .inr ⟨_, by rw [upto_take zs hk]; exact List.take_prefix _ _, hj⟩⟩
theorem infoI64 : (Tryz.prog.info? 2).map (fun i => (i.zero, i.size, i.bytes)) = some (some (.int .i64 0), 1, 8) := by kernel_rfl
set_option maxRecDepth 100000 in
set_option maxHeartbeats 2000000 in
theorem appendSeqIn (n : Nat) (hn : 3 ≤ n) (Bs : Nat) (sv : Value) (xs : List Int) (hlen : xs.length ≤ 1000000) (w : World) (hBs : Bs < w.heap.size) (hcs : w.cell? ⟨Bs, 0, none⟩ = some sv) (hI : Ints w.heap.size w sv xs) :
    CallsIn Fence.wide n Tryz.prog 132 #[.slice none 0 0, .func (.func 108) #[] #[.pointer (some ⟨Bs, 0, none⟩)]] w fun e W' =>
      ∃ v, e = .returned v ∧ W'.ownsRow w.heap.size 2 1 v xs.length (xs.map (Value.int .i64)) ∧ (v = .slice none 0 0 ↔ xs = []) ∧ Below w.heap.size w W' := by
  have h1 : 1 ≤ n := by omega
  obtain ⟨i0, hi, hz0, hz1, hz2⟩ := info_parts infoI64
  refine callsIn_of_wp_marks Tryz.func132 rfl trivial ?_ rfl
  simp only [Tryz.ntmps132, List.size_toArray, List.length_cons, List.length_nil, Nat.reduceAdd, Nat.reduceSub, Array.replicate_succ, Array.replicate_zero, List.push_toArray, List.append_toArray, List.nil_append, List.cons_append]
  gi_wp2
  have bO := Boxed.new w 27 (.slice none 0 0)
  have hB0 : Below w.heap.size w (w.alloc (.cells #[.slice none 0 0] 27)) := (Below.refl _ w).alloc (Nat.le_refl _) _
  refine wpIn_rangeFunc_ownG rfl h1 (gf := 108) (lb := #[.pointer (some ⟨Bs, 0, none⟩)]) rfl trivial (enters_of Tryz.func108 (by kernel_rfl) rfl)
    (values_stops (n - 1) (by omega) Bs w.heap.size sv xs (by omega) _ (by simp; omega) (by simp) ((hB0.cell (p := ⟨Bs, 0, none⟩) hBs).trans hcs) (hI.below hB0)) belowK_t (belowK_b (by simp)) (Below.refl _ _) (fun _ => rfl)
    (fun pre W => (∃ v, Boxed W w.heap.size 27 v ∧ W.ownsRow w.heap.size 2 1 v pre.length (pre.map (Value.int .i64)) ∧ (v = .slice none 0 0 ↔ pre = [])) ∧ Below w.heap.size w W)
    (fun _ _ _ => False)
    (OwnFrom.and (Own.from (holdsRow_own w.heap.size w.heap.size 27 2 1 (fun pre : List Int => pre.length) (fun pre => pre.map (Value.int .i64)) (fun pre v => v = .slice none 0 0 ↔ pre = [])) _) (ownFrom_below (Nat.le_refl _) (by simp)))
    (fun _ _ _ _ _ hs _ _ => hs)
    ⟨⟨_, bO, World.ownsRow_nil _ _ _ _, by simp⟩, hB0⟩
    (fun x => { tmps := #[.slice none 0 0, .func (.func 108) #[] #[.pointer (some ⟨Bs, 0, none⟩)], .pointer (some ⟨w.heap.size, 0, none⟩), undef, .slice none 0 0, .int .i64 x, .func (.func 108) #[] #[.pointer (some ⟨Bs, 0, none⟩)], .int .i64 x, undef, undef, undef, undef, undef], defers := [] }) ?assign ?body ?done ?stop
  case assign =>
    intro l x W K hK
    gi_wp2
    exact hK
  case body =>
    rintro l pre x W ⟨⟨v, hv, hrow, hnil⟩, hB⟩ hlt
    have hc := hv.cell
    gi_wp2_with (gi_at_builtin; refine wpListIn_append_own _ rfl _ _ 27 rfl w.heap.size 2 i0 (.int .i64 0) 1 8 Tryz.underlying27 hi hz0 hz1 hz2 rfl (by decide) _ _ _ rfl (hrow.alloc _) ⟨W.heap.size, 0, none⟩ 1 1 [.int .i64 x] rfl rfl (cell_one_new _ _ _) (by simp [Value.oneCell']) (by unfold maxLen; omega) (by omega) (by have := hB.size; simp; omega) ?_; intro v' w1 hown' hgrow _; obtain ⟨g', cap', rfl⟩ := ownsRow_succ hown'; obtain ⟨hv1, hv2, hr2, hk2, hb2⟩ := hv.appended (by decide) hrow hB.size (Nat.le_refl _) hown' hgrow; have hc1 := hv1.cell; have hf1 := hv1.frozen)
    exact ⟨hk2.from _, hb2, ⟨_, hv2, by simpa using hr2, by simp⟩, hB.trans hb2⟩
  case done =>
    rintro D ys W hD rfl ⟨⟨v, hv, hrow, hnil⟩, hB⟩ hK
    have hc := hv.cell
    gi_wp2
    refine ⟨by simp, .inl ⟨_, _, rfl, run_takeDeferred hK, ?_⟩⟩
    exact ⟨_, results_tmp rfl _ _ _, v, rfl, ownsRow_putObj hrow _ hK rfl, hnil, hB.trans (belowK_b (w := w) (Nat.le_refl _) W D _ _ (by simp at hD; omega) hK rfl rfl)⟩
  case stop =>
    rintro D c pre W _ _ h _
    exact h.elim
end Go.Proofs.YtaekjojblkhfdaaGreatDoor
namespace Go.Proofs.YtaekjojblkhfdaaGreatDoor
open Go Go.Shelf
def sortLaid_ren : Go.Shelf.Ren := ⟨fun | 5 => 107 | 8 => 134 | 7 => 133 | 19 => 161 | 20 => 148 | 10 => 152 | 11 => 153 | 12 => 154 | 13 => 155 | 14 => 156 | 15 => 157 | 16 => 158 | 17 => 159 | 18 => 160 | 30 => 172 | 31 => 173 | 32 => 174 | 33 => 175 | 34 => 176 | 35 => 89 | 40 => 180 | n => n, fun | 23 => 27 | 25 => 2 | 3 => 3 | 32 => 100 | 22 => 27 | 0 => 0 | 44 => 182 | 46 => 101 | 4 => 4 | 36 => 186 | 35 => 185 | 41 => 191 | 5 => 5 | 9 => 9 | 53 => 201 | 57 => 205 | 63 => 215 | 64 => 216 | n => n, fun | n => n⟩
theorem sortLaid : Go.Proofs.SlLaysM.n5 Tryz.prog sortLaid_ren := {
  mixed := by kernel_rfl
  f5 := ⟨Tryz.f107.name, by decide, Tryz.func107.trans (congrArg some (by kernel_rfl))⟩
  f7 := ⟨Tryz.f133.name, by decide, Tryz.func133.trans (congrArg some (by kernel_rfl))⟩
  f8 := Tryz.func134.trans (congrArg some (by kernel_rfl))
  f10 := ⟨Tryz.f152.name, by decide, Tryz.func152.trans (congrArg some (by kernel_rfl))⟩
  f11 := ⟨Tryz.f153.name, by decide, Tryz.func153.trans (congrArg some (by kernel_rfl))⟩
  f12 := ⟨Tryz.f154.name, by decide, Tryz.func154.trans (congrArg some (by kernel_rfl))⟩
  f13 := ⟨Tryz.f155.name, by decide, Tryz.func155.trans (congrArg some (by kernel_rfl))⟩
  f14 := ⟨Tryz.f156.name, by decide, Tryz.func156.trans (congrArg some (by kernel_rfl))⟩
  f15 := ⟨Tryz.f157.name, by decide, Tryz.func157.trans (congrArg some (by kernel_rfl))⟩
  f16 := ⟨Tryz.f158.name, by decide, Tryz.func158.trans (congrArg some (by kernel_rfl))⟩
  f17 := ⟨Tryz.f159.name, by decide, Tryz.func159.trans (congrArg some (by kernel_rfl))⟩
  f18 := ⟨Tryz.f160.name, by decide, Tryz.func160.trans (congrArg some (by kernel_rfl))⟩
  f19 := Tryz.func161.trans (congrArg some (by kernel_rfl))
  f20 := Tryz.func148.trans (congrArg some (by kernel_rfl))
  f30 := ⟨Tryz.f172.name, by decide, Tryz.func172.trans (congrArg some (by kernel_rfl))⟩
  f31 := Tryz.func173.trans (congrArg some (by kernel_rfl))
  f32 := Tryz.func174.trans (congrArg some (by kernel_rfl))
  f33 := ⟨Tryz.f175.name, by decide, Tryz.func175.trans (congrArg some (by kernel_rfl))⟩
  f34 := ⟨Tryz.f176.name, by decide, Tryz.func176.trans (congrArg some (by kernel_rfl))⟩
  f35 := ⟨Tryz.f89.name, by decide, Tryz.func89.trans (congrArg some (by kernel_rfl))⟩
  f40 := ⟨Tryz.f180.name, by decide, Tryz.func180.trans (congrArg some (by kernel_rfl))⟩
  t0 := Tryz.underlying0
  a0 := Tryz.isAgg0
  z0 := Tryz.sizeOf0
  v0 := Tryz.zeroValue0
  t3 := Tryz.underlying3
  a3 := Tryz.isAgg3
  z3 := Tryz.sizeOf3
  v3 := Tryz.zeroValue3
  t4 := Tryz.underlying4
  a4 := Tryz.isAgg4
  z4 := Tryz.sizeOf4
  v4 := Tryz.zeroValue4
  t5 := Tryz.underlying5
  a5 := Tryz.isAgg5
  z5 := Tryz.sizeOf5
  v5 := Tryz.zeroValue5
  t9 := Tryz.underlying9
  a9 := Tryz.isAgg9
  z9 := Tryz.sizeOf9
  v9 := Tryz.zeroValue9
  t22 := Tryz.underlying27
  a22 := Tryz.isAgg27
  z22 := Tryz.sizeOf27
  v22 := Tryz.zeroValue27
  t23 := Tryz.underlying27
  a23 := Tryz.isAgg27
  z23 := Tryz.sizeOf27
  v23 := Tryz.zeroValue27
  t25 := Tryz.underlying2
  a25 := Tryz.isAgg2
  z25 := Tryz.sizeOf2
  v25 := Tryz.zeroValue2
  t32 := Tryz.underlying100
  a32 := Tryz.isAgg100
  z32 := Tryz.sizeOf100
  v32 := Tryz.zeroValue100
  t35 := Tryz.underlying185
  a35 := Tryz.isAgg185
  z35 := Tryz.sizeOf185
  v35 := Tryz.zeroValue185
  t36 := Tryz.underlying186
  a36 := Tryz.isAgg186
  z36 := Tryz.sizeOf186
  v36 := Tryz.zeroValue186
  t41 := Tryz.underlying191
  a41 := Tryz.isAgg191
  z41 := Tryz.sizeOf191
  v41 := Tryz.zeroValue191
  t44 := Tryz.underlying182
  a44 := Tryz.isAgg182
  z44 := Tryz.sizeOf182
  v44 := Tryz.zeroValue182
  t46 := Tryz.underlying101
  a46 := Tryz.isAgg101
  z46 := Tryz.sizeOf101
  v46 := Tryz.zeroValue101
  t53 := Tryz.underlying201
  a53 := Tryz.isAgg201
  z53 := Tryz.sizeOf201
  v53 := Tryz.zeroValue201
  t57 := Tryz.underlying205
  a57 := Tryz.isAgg205
  z57 := Tryz.sizeOf205
  v57 := Tryz.zeroValue205
  t63 := Tryz.underlying215
  a63 := Tryz.isAgg215
  z63 := Tryz.sizeOf215
  v63 := Tryz.zeroValue215
  t64 := Tryz.underlying216
  a64 := Tryz.isAgg216
  z64 := Tryz.sizeOf216
  v64 := Tryz.zeroValue216 }
end Go.Proofs.YtaekjojblkhfdaaGreatDoor
namespace Go.Proofs.YtaekjojblkhfdaaGreatDoor
open Go Go.RowKit Go.Shelf Go.Proofs Go.Sx
theorem sortCal {H : List Blk} {i n : Nat} {c : Cap} {l : List Int} {ty : TypeId} (hb : H[i]? = some ⟨l.flatMap i64C, ty, .own 1⟩) (hn : n = l.length) (hl : l.length ≤ 1000000) :
    Cal Tryz.prog 107 [.s i 0 n c] H fun u H' => u = .t [] ∧ H' = H.set i ⟨(sortL l).flatMap i64C, ty, .own 1⟩ :=
  cal_sort (by kernel_rfl) hb hn hl fun blk off cap zs w hH hblk hsz => AnyM.slices_Sort_int sortLaid blk off cap zs w hH hblk hsz
theorem sortNil {H : List Blk} : Cal Tryz.prog 107 [.v (.slice none 0 0)] H fun u H' => u = .t [] ∧ H' = H :=
  cal_below (r := .t []) (by kernel_rfl) trivial fun σ w _ _ => (AnyM.slices_Sort_int_none sortLaid none 0 w).mono fun e w' ⟨he, hw⟩ => ⟨by rw [he]; simp [conc, concs], by rw [hw]; exact Below.refl _ _⟩
theorem ints_of_rd {H : List Blk} {σ : Nat → Go.Sx.Loc} {w : World} {v : V} {l : List Int} (hw : HRel σ H w) (h : Rd H v i64C l) : Ints w.heap.size w (conc σ v) l := by
  rcases h with ⟨rfl, rfl⟩ | ⟨i, off, c, b, rfl, hat, hf⟩
  · exact .inl ⟨rfl, rfl⟩
  · refine .inr ⟨(σ i).blk, (σ i).off + off, c.val (σ i).cap, rfl, hw.blk_lt hat.get hat.live, fun j hj => ?_⟩
    rw [Nat.add_assoc]
    refine (hw.holds i b hat.get).cell hat.live ?_
    have h1 := hat.i64 hj
    have hl2 := hat.len (by rw [flat_i64.flen]; omega)
    rw [flat_i64.flen, Nat.mul_one] at hl2
    rw [concs_get, ← Option.map_some]
    have h2 : b.cells[off + j]? = some (.v (.int .i64 l[j])) := by
      rw [List.getElem?_eq_getElem (by omega)]
      unfold Go.Sx.cel at h1
      rw [nth_eq, List.getElem?_eq_getElem (by omega)] at h1
      exact congrArg some h1
    rw [h2, List.getElem?_eq_getElem hj]; rfl
theorem collectAny {H : List Blk} {bi : Nat} {v : V} {l : List Int} (h : Rd H v i64C l) (hl : l.length ≤ 1000000) (hb : H[bi]? = some ⟨[v], 27, .fix⟩) (σ : Nat → Go.Sx.Loc) (w : World) (hw : HRel σ H w) :
    Calls Tryz.prog 132 (concs σ [.v (.slice none 0 0), .f 108 [.p bi 0]]).toArray w fun x w' => ∃ v, x = .returned v ∧ w'.ownsRow w.heap.size 2 1 v l.length (concs σ (l.flatMap i64C)) ∧ (v = .slice none 0 0 ↔ l = []) ∧ Below w.heap.size w w' := by
  rw [concs_i64]
  have hhb := hw.holds bi _ hb
  have hhc := hw.holds bi _ hb
  obtain ⟨h0, hg⟩ := (hhb : _ ∧ _)
  have hlt := hw.blk_lt hb rfl
  have hc : w.cell? ⟨(σ bi).blk, 0, none⟩ = some (conc σ v) := by
    have := hhc.cell rfl (j := 0) (u := conc σ v) (by simp [concs])
    rwa [h0] at this
  have e : (concs σ [.v (.slice none 0 0), .f 108 [.p bi 0]]).toArray = #[.slice none 0 0, .func (.func 108) #[] #[.pointer (some ⟨(σ bi).blk, 0, none⟩)]] := by simp [concs, conc, h0]
  rw [e]
  exact (callsIn_wide (n := 3)).1 (appendSeqIn 3 (by omega) (σ bi).blk (conc σ v) l hl w hlt hc (ints_of_rd hw h))
theorem appendSeqC {H : List Blk} {bi : Nat} {v : V} {l : List Int} (h : Rd H v i64C l) (hl : l.length ≤ 1000000) (hb : H[bi]? = some ⟨[v], 27, .fix⟩) (hne : l ≠ []) :
    Cal Tryz.prog 132 [.v (.slice none 0 0), .f 108 [.p bi 0]] H fun u H' => u = .s H.length 0 l.length (.u 0) ∧ H' = H ++ [⟨l.flatMap i64C, 2, .own 1⟩] :=
  cal_ownsRow (by kernel_rfl) (flat_i64.flen l) (by cases l with | nil => exact absurd rfl hne | cons a b => simp) (fun c hc => by obtain ⟨y, rfl, hy⟩ := flat_i64.mem hc; exact ⟨hy, hy⟩)
    fun σ w hw _ => (collectAny h hl hb σ w hw).mono fun x w' ⟨v, hx, hr, _, hbl⟩ => ⟨v, hx, hr, hbl⟩
theorem appendSeqNil {H : List Blk} {bi : Nat} {v : V} (h : Rd H v i64C []) (hb : H[bi]? = some ⟨[v], 27, .fix⟩) :
    Cal Tryz.prog 132 [.v (.slice none 0 0), .f 108 [.p bi 0]] H fun u H' => u = .v (.slice none 0 0) ∧ H' = H :=
  cal_below (by kernel_rfl) rfl fun σ w hw _ => (collectAny h (by simp) hb σ w hw).mono fun x w' ⟨v, hx, _, hn, hbl⟩ => ⟨by rw [hx, hn.2 rfl]; rfl, hbl⟩
theorem sortedC {H : List Blk} {bi : Nat} {v : V} {l : List Int} (h : Rd H v i64C l) (hl : l.length ≤ 1000000) (hb : H[bi]? = some ⟨[v], 27, .fix⟩) (hne : l ≠ []) :
    Cal Tryz.prog 83 [.f 108 [.p bi 0]] H fun u H' => u = .s H.length 0 l.length (.u 0) ∧ H' = H ++ [⟨(sortL l).flatMap i64C, 2, .own 1⟩] := by
  have hc : ∀ L, Cal Tryz.prog 106 [.f 108 [.p bi 0]] (H ++ L) fun u H' => u = .s (H ++ L).length 0 l.length (.u 0) ∧ H' = (H ++ L) ++ [⟨l.flatMap i64C, 2, .own 1⟩] := fun L => by
    have hb2 : (H ++ L)[bi]? = some ⟨[v], 27, .fix⟩ := get_app hb
    generalize hG : H ++ L = G at hb2
    have h2 : Rd G v i64C l := by rw [← hG]; exact h.app
    refine cal_fn 4 mixed Tryz.func106 Tryz.ntmps106 Tryz.results106 rfl rfl rfl fun hw cx hx hq => ?_
    repeat (first | (simp only [go_sem, Int.reduceLT, Int.reduceLE, Int.reduceEq, Int.reduceToNat]) | ((with_reducible refine isSK ?_); refine call_ret (appendSeqC h2 hl hb2 hne) ?_ ?_) )
    refine ret_at hq _ (.inl rfl) (by simp) ?_
    simp [go_sem]
  have hc0 := hc []
  rw [List.append_nil] at hc0
  refine cal_fn 8 mixed Tryz.func83 Tryz.ntmps83 Tryz.results83 rfl rfl rfl fun hw cx hx hq => ?_
  repeat (first | (simp only [go_sem, Int.reduceLT, Int.reduceLE, Int.reduceEq, Int.reduceToNat]) | ((with_reducible refine isSK ?_); first | refine call_ret (hc0) ?_ ?_ | refine call_ret (sortCal (l := l) (by exact (Go.Sx.get_at0 _ _).trans rfl ) rfl hl) ?_ ?_) )
  refine ret_at hq _ (.inl rfl) (by simp) ?_
  simp [go_sem]
theorem sortedNil {H : List Blk} {bi : Nat} {v : V} (h : Rd H v i64C []) (hb : H[bi]? = some ⟨[v], 27, .fix⟩) :
    Cal Tryz.prog 83 [.f 108 [.p bi 0]] H fun u H' => u = .v (.slice none 0 0) ∧ H' = H := by
  have hc : Cal Tryz.prog 106 [.f 108 [.p bi 0]] H fun u H' => u = .v (.slice none 0 0) ∧ H' = H := by
    refine cal_fn 4 mixed Tryz.func106 Tryz.ntmps106 Tryz.results106 rfl rfl rfl fun hw cx hx hq => ?_
    repeat (first | (simp only [go_sem, Int.reduceLT, Int.reduceLE, Int.reduceEq, Int.reduceToNat]) | ((with_reducible refine isSK ?_); refine call_ret (appendSeqNil h hb) ?_ ?_) )
    refine ret_same hq _ (.inl rfl) ?_
    simp [go_sem]
  refine cal_fn 8 mixed Tryz.func83 Tryz.ntmps83 Tryz.results83 rfl rfl rfl fun hw cx hx hq => ?_
  repeat (first | (simp only [go_sem, Int.reduceLT, Int.reduceLE, Int.reduceEq, Int.reduceToNat]) | ((with_reducible refine isSK ?_); first | refine call_ret (hc) ?_ ?_ | refine call_ret (sortNil) ?_ ?_) )
  refine ret_same hq _ (.inl rfl) ?_
  simp [go_sem]
theorem valuesC {H : List Blk} {v : V} (h : v.solid = true) :
    Cal Tryz.prog 84 [v] H fun u H' => u = .f 108 [.p H.length 0] ∧ H' = H ++ [⟨cellsL v, 27, .fix⟩] := by
  refine cal_fn 3 mixed Tryz.func84 Tryz.ntmps84 Tryz.results84 rfl rfl rfl fun hw cx hx hq => ?_
  repeat ((simp only [go_sem, Int.reduceLT, Int.reduceLE, Int.reduceEq, Int.reduceToNat, h]) )
  refine ret_at hq _ (.inl rfl) (by simp) ?_
  simp [go_sem]
end Go.Proofs.YtaekjojblkhfdaaGreatDoor
