/- Contracts of functions of the translated program, by the walk. -/
import Derived.Test.YtaekjojblkhfdaaGreatDr2b
import Derived.Test.YtaekjojblkhfdaaGreatC2
import Derived.Test.YtaekjojblkhfdaaGreatFt1
set_option linter.unusedVariables false
set_option linter.unusedSimpArgs false
set_option maxRecDepth 8000
set_option maxHeartbeats 16000000
namespace Go.Proofs.YtaekjojblkhfdaaGreat
open Go Go.Sx
open Go.RowKit
theorem xor16 {a b : Int} (ha : 0 ≤ a ∧ a ≤ 4095) (hb : 0 ≤ b ∧ b ≤ 4095) : 0 ≤ bits .xor .u16 a b ∧ bits .xor .u16 a b ≤ 4095 := by
  rw [u16_xor _ _ ha.1 (by omega) hb.1 (by omega)]
  have := Nat.xor_lt_two_pow (n := 12) (x := a.toNat) (y := b.toNat) (by omega) (by omega)
  omega
theorem f12_upd {f : Nat → Int} (h : F12 f) {j : Nat} {x : Int} (hx : 0 ≤ x ∧ x ≤ 4095) : F12 (Go.Sx.upd f j x) := fun i hi => by
  unfold Go.Sx.upd
  split
  · exact hx
  · exact h i hi
theorem l04Few {H : List Blk} {cv : V} {l : List Int} (hr : Rd H cv u8C l) (h8 : B8 l) (hll : l.length ≤ 4096) :
    Cal Tryz.prog 26 [.p H.length 0] (H ++ [⟨[cv, .v (.int .i64 0), .v (.int .u64 0)], 85, .fix⟩]) fun u H' => ∃ (b : List (Nat → Int)) (j : Nat) (L : List Blk), b.length ≤ 6 ∧ (∀ f ∈ b, F12 f) ∧
      u = .s (H.length + j) 0 b.length (.u 0) ∧ H' = H ++ L ∧ L[j]? = some ⟨b.flatMap (rowL .u16 12), 63, .own 12⟩ := by
  have hsol := hr.solid
  refine cal_fn 46 mixed Tryz.func26 Tryz.ntmps26 Tryz.results26 rfl rfl rfl fun hw cx hx hq => ?_
  have hx2 : cx.n0 = H.length + 1 := by rw [hx]; simp
  have k0 := pkV_range h8 0 0 (n := 7) (by omega)
  repeat (first | (simp only [go_sem, Int.reduceLT, Int.reduceLE, Int.reduceEq, Int.reduceToNat, rowL_rep, rowL_length, hx2]) | ((with_reducible refine And.intro ?_ ?_); omega) | ((with_reducible refine isSK ?_); first | (refine call_ret (pick (i := H.length) (a := 0) (sd := 0) (n := 7) (l := l) (k := .fix) (by first | exact (Go.Sx.get_at0 _ _).trans rfl | exact (Go.Sx.get_at _ _ 1).trans rfl | exact (Go.Sx.get_at _ _ 2).trans rfl | exact (Go.Sx.get_at _ _ 3).trans rfl | exact (Go.Sx.get_at _ _ 4).trans rfl | exact (Go.Sx.get_at _ _ 5).trans rfl | exact (Go.Sx.get_at _ _ 6).trans rfl | exact (Go.Sx.get_at _ _ 7).trans rfl | exact (Go.Sx.get_at _ _ 8).trans rfl | exact (Go.Sx.get_at _ _ 9).trans rfl | exact (Go.Sx.get_at _ _ 10).trans rfl | exact (Go.Sx.get_at _ _ 11).trans rfl | exact (Go.Sx.get_at _ _ 12).trans rfl | exact (Go.Sx.get_at _ _ 13).trans rfl | exact (Go.Sx.get_at _ _ 14).trans rfl | exact (Go.Sx.get_at _ _ 15).trans rfl) rfl rfl hr.app h8 hll (by omega) (by omega) (by omega)) (by simp only [go_sem, Int.reduceLT, Int.reduceLE, Int.reduceEq, Int.reduceToNat, rowL_rep, rowL_length, hx2]) ?_)) | ((with_reducible refine And.intro ?_ ?_); first | (with_reducible rfl) | assumption | (simp only [go_sem]; done)))
  refine WK_for (fun q : (Nat × List (Nat → Int)) × (Nat → Int) × (Nat × Int) => ⟨[.p H.length 0, .any, .any, .s (H.length + 1) 0 q.1.2.length (.u 0), .p (H.length + 2) 0, .v (.int .i64 q.1.1)] ++ junk 41, H ++ [⟨[cv, .v (.int .i64 (q.2.2.1 : Int)), .v (.int .u64 q.2.2.2)], 85, .fix⟩, ⟨q.1.2.flatMap (rowL .u16 12), 63, .own 12⟩, ⟨rowL .u16 12 (q.2.1), 63, .fix⟩]⟩) (fun q => q.1.1 + q.1.2.length ≤ 6 ∧ (∀ f ∈ q.1.2, F12 f) ∧ F12 q.2.1 ∧ q.2.2.1 + 7 * q.1.1 ≤ 50 ∧ (0 ≤ q.2.2.2 ∧ q.2.2.2 ≤ 18446744073709551615)) (fun q => q.1.1) (((pkV l 0 0 7).toNat, []), (zeroF, (1, nxS l 0 0))) (Weak.slots ?_) ?_ fun q hq0 => ?_
  · simp [go_sem, Int.toNat_of_nonneg k0.1]
    trace_state
  · refine ⟨?_, ?_, ?_, ?_, nxS_range _ _ _⟩
    · simp; omega
    · simp
    · intro j _; simp [zeroF]
    · simp; omega
  obtain ⟨⟨kk, acc⟩, ⟨f, ⟨a1, s1⟩⟩⟩ := q
  obtain ⟨hk6, hacc, hf, ha1, hs1⟩ := hq0
  simp only at hk6 hacc hf ha1 hs1 ⊢
  have hla : (acc.flatMap (rowL .u16 12)).length = acc.length * 12 := flat_len _ 12 hz12 acc
  have g1 : norefH (H.length + 1) H := norefH_left hw (by simp)
  have n1 : norefs (H.length + 1) (acc.flatMap (rowL .u16 12)) = true := (flat_rowL .u16 12).norefs _ _
  have hcv1 : V.noref (H.length + 1) cv = true := hr.noref (by omega)
  have hcl : ∀ m, H.length ≤ m → V.lt m cv = True := fun m hm => hr.vlt hm
  have hcl3 := hcl (H.length + 3) (by omega)
  have q1 : (H.length = H.length + 1) = False := eq_false (by omega)
  have q2 : (H.length + 2 = H.length + 1) = False := eq_false (by omega)
  have q3 : (H.length + 3 = H.length + 1) = False := eq_false (by omega)
  have q4 : (H.length + 4 = H.length + 1) = False := eq_false (by omega)
  by_cases hk0 : kk = 0
  · have hz2 : ((0 : Int) < (kk : Int)) = False := eq_false (by omega)
    have hone := one (H := H ++ [⟨[cv, .v (.int .i64 (a1 : Int)), .v (.int .u64 s1)], 85, .fix⟩, ⟨acc.flatMap (rowL .u16 12), 63, .own 12⟩, ⟨rowL .u16 12 (f), 63, .fix⟩]) (i := H.length) (a := a1) (sd := s1) (n := 2) (l := l) (k := .fix) (by first | exact (Go.Sx.get_at0 _ _).trans rfl | exact (Go.Sx.get_at _ _ 1).trans rfl | exact (Go.Sx.get_at _ _ 2).trans rfl | exact (Go.Sx.get_at _ _ 3).trans rfl | exact (Go.Sx.get_at _ _ 4).trans rfl | exact (Go.Sx.get_at _ _ 5).trans rfl | exact (Go.Sx.get_at _ _ 6).trans rfl | exact (Go.Sx.get_at _ _ 7).trans rfl | exact (Go.Sx.get_at _ _ 8).trans rfl | exact (Go.Sx.get_at _ _ 9).trans rfl | exact (Go.Sx.get_at _ _ 10).trans rfl | exact (Go.Sx.get_at _ _ 11).trans rfl | exact (Go.Sx.get_at _ _ 12).trans rfl | exact (Go.Sx.get_at _ _ 13).trans rfl | exact (Go.Sx.get_at _ _ 14).trans rfl | exact (Go.Sx.get_at _ _ 15).trans rfl) rfl rfl hr.app h8 hll (by omega) hs1 (by omega)
    have hns := nxS_range l a1 s1
    by_cases h1 : pkV l a1 s1 2 = 0
    · have h1d : decide (pkV l a1 s1 2 = 0) = true := decide_eq_true h1
      rw [h1d] at hone
      repeat (first | (simp only [go_sem, Int.reduceLT, Int.reduceLE, Int.reduceEq, Int.reduceToNat, hz2, hx2]) | ((with_reducible refine And.intro ?_ ?_); omega) | ((with_reducible refine isSK ?_); first | (refine call_ret (hone) (by simp only [go_sem, Int.reduceLT, Int.reduceLE, Int.reduceEq, Int.reduceToNat, hz2, hx2]) ?_)) | ((with_reducible refine And.intro ?_ ?_); first | (with_reducible rfl) | assumption | (simp only [go_sem]; done)))
      refine call_ex (l04Mixed2 (a := a1 + 1) (n := acc.length) (sd := nxS l a1 s1) (cv := cv) (l := l) hr h8 hll (by omega) hns (by omega)) (by simp only [go_sem]) ?_
      rintro _ _ ⟨o, a', sd', ho, ha', hs', rfl, rfl⟩
      repeat (first | (simp only [go_sem, Int.reduceLT, Int.reduceLE, Int.reduceEq, Int.reduceToNat, hz2, hx2]) | ((with_reducible refine And.intro ?_ ?_); omega) | ((with_reducible refine isSK ?_); first | (refine call_ret (l04Pages (l := acc) (o := o) (Rd.own 1 rfl rfl rfl) (Rd.own 3 rfl rfl rfl) ho.2.1 (by have := ho.1; omega)) (by simp only [go_sem, Int.reduceLT, Int.reduceLE, Int.reduceEq, Int.reduceToNat, hz2, hx2]) ?_)) | ((with_reducible refine And.intro ?_ ?_); first | (with_reducible rfl) | assumption | (simp only [go_sem]; done)))
      refine ret_at hq _ (.inl rfl) (by simp) ?_
      simp only [go_sem]
      refine ⟨inO acc o, 5, _, by rw [inO_len, ho.1]; omega, inO_12 hacc o, rfl, rfl, rfl⟩
    · have h1d : decide (pkV l a1 s1 2 = 0) = false := decide_eq_false h1
      rw [h1d] at hone
      repeat (first | (simp only [go_sem, Int.reduceLT, Int.reduceLE, Int.reduceEq, Int.reduceToNat, hz2, hx2]) | ((with_reducible refine And.intro ?_ ?_); omega) | ((with_reducible refine isSK ?_); first | (refine call_ret (hone) (by simp only [go_sem, Int.reduceLT, Int.reduceLE, Int.reduceEq, Int.reduceToNat, hz2, hx2]) ?_)) | ((with_reducible refine And.intro ?_ ?_); first | (with_reducible rfl) | assumption | (simp only [go_sem]; done)))
      refine ret_at hq _ (.inl rfl) (by simp) ?_
      simp only [go_sem]
      refine ⟨acc, 1, _, by omega, hacc, rfl, rfl, rfl⟩
  have hz2 : ((0 : Int) < (kk : Int)) = True := eq_true (by omega)
  have k3 := pkV_range h8 a1 s1 (n := 3) (by omega)
  have hns := nxS_range l a1 s1
  obtain ⟨n3, hn3⟩ : ∃ n3 : Nat, pkV l a1 s1 3 = n3 := ⟨(pkV l a1 s1 3).toNat, by omega⟩
  rw [hn3] at k3
  repeat (first | (simp only [go_sem, Int.reduceLT, Int.reduceLE, Int.reduceEq, Int.reduceToNat, hz2, hx2, hn3]) | ((with_reducible refine And.intro ?_ ?_); omega) | ((with_reducible refine isSK ?_); first | (refine call_ret (pick (i := H.length) (a := a1) (sd := s1) (n := 3) (l := l) (k := .fix) (by first | exact (Go.Sx.get_at0 _ _).trans rfl | exact (Go.Sx.get_at _ _ 1).trans rfl | exact (Go.Sx.get_at _ _ 2).trans rfl | exact (Go.Sx.get_at _ _ 3).trans rfl | exact (Go.Sx.get_at _ _ 4).trans rfl | exact (Go.Sx.get_at _ _ 5).trans rfl | exact (Go.Sx.get_at _ _ 6).trans rfl | exact (Go.Sx.get_at _ _ 7).trans rfl | exact (Go.Sx.get_at _ _ 8).trans rfl | exact (Go.Sx.get_at _ _ 9).trans rfl | exact (Go.Sx.get_at _ _ 10).trans rfl | exact (Go.Sx.get_at _ _ 11).trans rfl | exact (Go.Sx.get_at _ _ 12).trans rfl | exact (Go.Sx.get_at _ _ 13).trans rfl | exact (Go.Sx.get_at _ _ 14).trans rfl | exact (Go.Sx.get_at _ _ 15).trans rfl) rfl rfl hr.app h8 hll (by omega) hs1 (by omega)) (by simp only [go_sem, Int.reduceLT, Int.reduceLE, Int.reduceEq, Int.reduceToNat, hz2, hx2, hn3]) ?_)) | ((with_reducible refine And.intro ?_ ?_); first | (with_reducible rfl) | assumption | (simp only [go_sem]; done)))
  refine WK_for (fun q : Nat × (Nat → Int) × (Nat × Int) => ⟨[.p H.length 0, .any, .any, .s (H.length + 1) 0 acc.length (.u 0), .p (H.length + 2) 0, .v (.int .i64 kk), .v (.int .i64 q.1)] ++ junk 40, H ++ [⟨[cv, .v (.int .i64 (q.2.2.1 : Int)), .v (.int .u64 q.2.2.2)], 85, .fix⟩, ⟨acc.flatMap (rowL .u16 12), 63, .own 12⟩, ⟨rowL .u16 12 (q.2.1), 63, .fix⟩]⟩) (fun q => q.1 ≤ 3 ∧ F12 q.2.1 ∧ q.2.2.1 + 2 * q.1 + 7 * (kk - 1) ≤ 50 ∧ (0 ≤ q.2.2.2 ∧ q.2.2.2 ≤ 18446744073709551615)) (fun q => q.1) (n3 + 1, (f, (a1 + 1, nxS l a1 s1))) (Weak.slots ?_) ?_ fun q hq1 => ?_
  · simp [go_sem, Int.add_comm]
  · exact ⟨by dsimp only; omega, hf, by dsimp only; omega, hns⟩
  obtain ⟨nn, ⟨f2, ⟨a2, s2⟩⟩⟩ := q
  obtain ⟨hn2, hf2, ha2, hs2⟩ := hq1
  simp only at hn2 hf2 ha2 hs2 ⊢
  by_cases hnn : nn = 0
  · have hz3 : ((0 : Int) < (nn : Int)) = False := eq_false (by omega)
    repeat (first | (simp only [go_sem, Int.reduceLT, Int.reduceLE, Int.reduceEq, Int.reduceToNat, hz3, hx2, rowL_rep, rowL_length, hla, g1, n1, hcv1, q1, q2, q3, q4]) | ((with_reducible refine And.intro ?_ ?_); omega) | ((with_reducible refine And.intro ?_ ?_); first | (with_reducible rfl) | assumption | (simp only [go_sem]; done)))
    refine EK_again ((kk - 1, acc ++ [f2]), (f2, (a2, s2))) ?_ ⟨by dsimp only; rw [List.length_append, List.length_singleton]; omega, fun g hg => ?_, hf2, by dsimp only; omega, hs2⟩ (by dsimp only; omega)
    · have e4 : ((kk - 1 : Nat) : Int) = (kk : Int) - 1 := by omega
      dsimp only
      rw [e4, List.flatMap_append, List.flatMap_singleton, List.length_append, List.length_singleton]
      exact Weak.keepN rfl (by simp [go_sem] <;> omega) (by simp [hx]) (by simp [go_sem] <;> omega) (hw.re (by simp) (by simp [go_sem, hcl3, (flat_rowL .u16 12).lts]))
    · rcases List.mem_append.1 hg with hg | hg
      · exact hacc g hg
      · simp at hg; subst hg; exact hf2
  have hz3 : ((0 : Int) < (nn : Int)) = True := eq_true (by omega)
  have k4 := pkV_range h8 a2 s2 (n := 4) (by omega)
  have hns4 := nxS_range l a2 s2
  have k5 := pkV_range h8 (a2 + 1) (nxS l a2 s2) (n := 3) (by omega)
  have hns5 := nxS_range l (a2 + 1) (nxS l a2 s2)
  obtain ⟨x, hx4⟩ : ∃ x : Nat, pkV l a2 s2 4 = x := ⟨(pkV l a2 s2 4).toNat, by omega⟩
  obtain ⟨y, hy3⟩ : ∃ y : Nat, pkV l (a2 + 1) (nxS l a2 s2) 3 = y := ⟨(pkV l (a2 + 1) (nxS l a2 s2) 3).toNat, by omega⟩
  rw [hx4] at k4
  rw [hy3] at k5
  have hwx : IntKind.u64.wrap (x : Int) = x := wrap_u64 (by omega) (by omega)
  have hy12 : y < 12 := by omega
  repeat (first | (simp only [go_sem, Int.reduceLT, Int.reduceLE, Int.reduceEq, Int.reduceToNat, hz3, hx2, hx4, hy3, hwx, rowL_cel _ _ _ hy12, rowL_wr _ _ _ hy12]) | ((with_reducible refine And.intro ?_ ?_); omega) | ((with_reducible refine isSK ?_); first | (refine call_ret (pick (i := H.length) (a := a2) (sd := s2) (n := 4) (l := l) (k := .fix) (by first | exact (Go.Sx.get_at0 _ _).trans rfl | exact (Go.Sx.get_at _ _ 1).trans rfl | exact (Go.Sx.get_at _ _ 2).trans rfl | exact (Go.Sx.get_at _ _ 3).trans rfl | exact (Go.Sx.get_at _ _ 4).trans rfl | exact (Go.Sx.get_at _ _ 5).trans rfl | exact (Go.Sx.get_at _ _ 6).trans rfl | exact (Go.Sx.get_at _ _ 7).trans rfl | exact (Go.Sx.get_at _ _ 8).trans rfl | exact (Go.Sx.get_at _ _ 9).trans rfl | exact (Go.Sx.get_at _ _ 10).trans rfl | exact (Go.Sx.get_at _ _ 11).trans rfl | exact (Go.Sx.get_at _ _ 12).trans rfl | exact (Go.Sx.get_at _ _ 13).trans rfl | exact (Go.Sx.get_at _ _ 14).trans rfl | exact (Go.Sx.get_at _ _ 15).trans rfl) rfl rfl hr.app h8 hll (by omega) hs2 (by omega)) (by simp only [go_sem, Int.reduceLT, Int.reduceLE, Int.reduceEq, Int.reduceToNat, hz3, hx2, hx4, hy3, hwx, rowL_cel _ _ _ hy12, rowL_wr _ _ _ hy12]) ?_) | (refine call_ret (pick (i := H.length) (a := a2 + 1) (sd := (nxS l a2 s2)) (n := 3) (l := l) (k := .fix) (by first | exact (Go.Sx.get_at0 _ _).trans rfl | exact (Go.Sx.get_at _ _ 1).trans rfl | exact (Go.Sx.get_at _ _ 2).trans rfl | exact (Go.Sx.get_at _ _ 3).trans rfl | exact (Go.Sx.get_at _ _ 4).trans rfl | exact (Go.Sx.get_at _ _ 5).trans rfl | exact (Go.Sx.get_at _ _ 6).trans rfl | exact (Go.Sx.get_at _ _ 7).trans rfl | exact (Go.Sx.get_at _ _ 8).trans rfl | exact (Go.Sx.get_at _ _ 9).trans rfl | exact (Go.Sx.get_at _ _ 10).trans rfl | exact (Go.Sx.get_at _ _ 11).trans rfl | exact (Go.Sx.get_at _ _ 12).trans rfl | exact (Go.Sx.get_at _ _ 13).trans rfl | exact (Go.Sx.get_at _ _ 14).trans rfl | exact (Go.Sx.get_at _ _ 15).trans rfl) rfl rfl hr.app h8 hll (by omega) hns4 (by omega)) (by simp only [go_sem, Int.reduceLT, Int.reduceLE, Int.reduceEq, Int.reduceToNat, hz3, hx2, hx4, hy3, hwx, rowL_cel _ _ _ hy12, rowL_wr _ _ _ hy12]) ?_)) | ((with_reducible refine And.intro ?_ ?_); first | (with_reducible rfl) | assumption | (simp only [go_sem]; done)))
  have h2x : 0 ≤ IntKind.u16.wrap (1 * 2 ^ min x 16) ∧ IntKind.u16.wrap (1 * 2 ^ min x 16) ≤ 4095 := by
    have : x = 0 ∨ x = 1 ∨ x = 2 ∨ x = 3 := by omega
    rcases this with rfl | rfl | rfl | rfl <;> decide
  refine EK_again (nn - 1, (upd f2 y (bits .xor .u16 (f2 y) (IntKind.u16.wrap (1 * 2 ^ min x 16))), (a2 + 2, nxS l (a2 + 1) (nxS l a2 s2)))) (Weak.slots ?_) ⟨by dsimp only; omega, f12_upd hf2 (xor16 (hf2 y hy12) h2x), by dsimp only; omega, hns5⟩ (by dsimp only; omega)
  have e4 : ((nn - 1 : Nat) : Int) = (nn : Int) - 1 := by omega
  simp [go_sem, e4]
theorem P6Book {H : List Blk} {cv : V} {l : List Int} (hr : Rd H cv u8C l) (h8 : B8 l) (hll : l.length ≤ 4096) :
    Cal Tryz.prog 5 [cv] H fun u H' => ∃ b : List (Nat → Int), b.length ≤ 6 ∧ (∀ f ∈ b, F12 f) ∧ u = .s H.length 0 b.length (.u 0) ∧ H' = H ++ [⟨b.flatMap (rowL .u16 12), 63, .own 12⟩] := by
  have hsol := hr.solid
  refine cal_fn 5 mixed Tryz.func5 Tryz.ntmps5 Tryz.results5 rfl rfl rfl fun hw cx hx hq => ?_
  repeat (first | (simp only [go_sem, Int.reduceLT, Int.reduceLE, Int.reduceEq, Int.reduceToNat, hsol]) | ((with_reducible refine And.intro ?_ ?_); omega) | ((with_reducible refine isSK ?_); first | (refine call_ret (l00From hr) (by simp only [go_sem, Int.reduceLT, Int.reduceLE, Int.reduceEq, Int.reduceToNat, hsol]) ?_)) | ((with_reducible refine And.intro ?_ ?_); first | (with_reducible rfl) | assumption | (simp only [go_sem]; done)))
  refine call_ex (l04Few hr h8 hll) (by simp only [go_sem]) ?_
  rintro _ _ ⟨b, j, L, h6, h12, rfl, rfl, hL⟩
  repeat (first | (simp only [go_sem, Int.reduceLT, Int.reduceLE, Int.reduceEq, Int.reduceToNat, hsol]) | ((with_reducible refine And.intro ?_ ?_); omega) | ((with_reducible refine And.intro ?_ ?_); first | (with_reducible rfl) | assumption | (simp only [go_sem]; done)))
  refine ret_one hq hw _ (.inl rfl) j hL (by rw [(flat_rowL .u16 12).lts]; trivial) (.s H.length 0 b.length (.u 0)) (by simp [go_sem]) ?_
  simp only [go_sem]
  refine ⟨by simp [conc, upσ, Cap.val], b, h6, h12, rfl, rfl⟩
end Go.Proofs.YtaekjojblkhfdaaGreat
namespace Go.Proofs.YtaekjojblkhfdaaGreat
open Go Go.Sx
open Go.RowKit
theorem l02Same {H : List Blk} {v v2 : V} {l : List (Nat → Int)} (h : Rd H v (rowL .u16 12) l) (h2 : Rd H v2 (rowL .u16 12) l) (hl : l.length ≤ 1000000000) : Cal Tryz.prog 43 [v, v2] H fun u H' => u = .v (.bool true) ∧ H' = H := by
  have hsol := h.solid
  have hsol2 := h2.solid
  have hL := h.lenV (P := Tryz.prog) slTy25
  have hL2 := h2.lenV (P := Tryz.prog) slTy25
  refine cal_fn 24 mixed Tryz.func43 Tryz.ntmps43 Tryz.results43 rfl rfl rfl fun hw cx hx hq => ?_
  repeat (first | (simp only [go_sem, Int.reduceLT, Int.reduceLE, Int.reduceEq, Int.reduceToNat, hsol, hsol2, hL, hL2]) | ((with_reducible refine And.intro ?_ ?_); omega) | ((with_reducible refine isWKr (id := 6) ?_); refine WK_drawAt 6 [[],[],[0,1],[0,1,2],[],[],[4,5],[4,5,6],[0,1,2,3,4,5,6,7]] (by kernel_rfl) ?_) | ((with_reducible refine And.intro ?_ ?_); first | (with_reducible rfl) | assumption | (simp only [go_sem]; done)))
  refine WK_for (fun n : Nat => ⟨[v, v2, .any, .any, .any, .v (.int .i64 n)] ++ junk 20, H⟩) (fun n => n ≤ l.length) (fun n => l.length - n) 0 (Weak.slots ?_) ?_ fun n hn => ?_
  · simp [go_sem]
  · simp
  rcases Int.lt_or_le (n : Int) l.length with hc | hc
  · have hj : n < l.length := by omega
    obtain ⟨i, off, c, bl, rfl, hat⟩ := h.row (by omega)
    obtain ⟨i2, off2, c2, bl2, rfl, hat2⟩ := h2.row (by omega)
    have hfit := hat.fits (rowL .u16 12) 12 (fun _ => rowL_length ..) hj (by omega)
    have hfit2 := hat2.fits (rowL .u16 12) 12 (fun _ => rowL_length ..) hj (by omega)
    have e1 := hat.elem (rowL .u16 12) 12 hz12 hj
    have e2 := hat2.elem (rowL .u16 12) 12 hz12 hj
    repeat (first | (simp only [go_sem, Int.reduceLT, Int.reduceLE, Int.reduceEq, Int.reduceToNat, hL, hL2, hc, hat.lt, hat.get, hat.live, e1, hat2.lt, hat2.get, hat2.live, e2, allEq_self]) | ((with_reducible refine And.intro ?_ ?_); omega) | ((with_reducible refine isWKr (id := 6) ?_); refine WK_drawAt 6 [[],[],[0,1],[0,1,2],[],[],[4,5],[4,5,6],[0,1,2,3,4,5,6,7]] (by kernel_rfl) ?_) | ((with_reducible refine And.intro ?_ ?_); first | (with_reducible rfl) | assumption | (simp only [go_sem]; done)))
    refine EK_again (n + 1) (Weak.slots (by simp [go_sem])) (by omega) (by omega)
  · repeat (first | (simp only [go_sem, Int.reduceLT, Int.reduceLE, Int.reduceEq, Int.reduceToNat, hL, Int.not_lt.2 hc]) | ((with_reducible refine And.intro ?_ ?_); omega) | ((with_reducible refine isWKr (id := 6) ?_); refine WK_drawAt 6 [[],[],[0,1],[0,1,2],[],[],[4,5],[4,5,6],[0,1,2,3,4,5,6,7]] (by kernel_rfl) ?_) | ((with_reducible refine And.intro ?_ ?_); first | (with_reducible rfl) | assumption | (simp only [go_sem]; done)))
    refine ret_same hq _ (.inl rfl) ?_
    simp [go_sem]
theorem sameBook {H : List Blk} {v v2 : V} {l : List (Nat → Int)} (h : Rd H v (rowL .u16 12) l) (h2 : Rd H v2 (rowL .u16 12) l) (hl : l.length ≤ 1000000000) : Cal Tryz.prog 13 [v, v2] H fun u H' => u = .v (.bool true) ∧ H' = H := by
  have hsol := h.solid
  have hsol2 := h2.solid
  refine cal_fn 6 mixed Tryz.func13 Tryz.ntmps13 Tryz.results13 rfl rfl rfl fun hw cx hx hq => ?_
  repeat (first | (simp only [go_sem, Int.reduceLT, Int.reduceLE, Int.reduceEq, Int.reduceToNat, hsol, hsol2]) | ((with_reducible refine And.intro ?_ ?_); omega) | ((with_reducible refine isSK ?_); first | (refine call_ret (l02Same h h2 hl) (by simp only [go_sem, Int.reduceLT, Int.reduceLE, Int.reduceEq, Int.reduceToNat, hsol, hsol2]) ?_)) | ((with_reducible refine And.intro ?_ ?_); first | (with_reducible rfl) | assumption | (simp only [go_sem]; done)))
  refine ret_same hq _ (.inl rfl) ?_
  simp [go_sem]
theorem okF_12 {f : Nat → Int} (h : F12 f) : okF f = true := (okF_iff f).2 fun j hj => (h j hj).2
theorem okB_len {l : List (Nat → Int)} (h : ∀ f ∈ l, F12 f) (hl : l.length ≤ 40) : okB l = true := okB_iff.2 ⟨hl, List.all_eq_true.2 fun f hf => okF_12 (h f hf)⟩
def pk1 (l : List Int) (n : Int) : Int := if n ≤ 1 then 0 else pkV l 0 0 n
theorem pk1_range {l : List Int} (h8 : B8 l) {n : Int} (hn : 1 ≤ n) : 0 ≤ pk1 l n ∧ pk1 l n < n := by
  unfold pk1
  split
  · omega
  · exact pkV_range h8 0 0 (by omega)
theorem pickNo {H : List Blk} {i : Nat} {n : Int} (hn : n ≤ 1) : Cal Tryz.prog 53 [.p i 0, .v (.int .i64 n)] H fun u H' => u = .v (.int .i64 0) ∧ H' = H := by
  have e1 : (n ≤ 1) = True := eq_true hn
  refine cal_fn 18 mixed Tryz.func53 Tryz.ntmps53 Tryz.results53 rfl rfl rfl fun hw cx hx hq => ?_
  repeat (first | (simp only [go_sem, Int.reduceLT, Int.reduceLE, Int.reduceEq, Int.reduceToNat, e1]) | ((with_reducible refine And.intro ?_ ?_); omega) | ((with_reducible refine And.intro ?_ ?_); first | (with_reducible rfl) | assumption | (simp only [go_sem]; done)))
  refine ret_same hq _ (.inl rfl) ?_
  simp [go_sem]
theorem P6PickE {H : List Blk} {cv : V} {l : List Int} {n : Int} (hr : Rd H cv u8C l) (h8 : B8 l) (hll : l.length ≤ 4096) (hn : n ≤ 200) : Cal Tryz.prog 19 [cv, .v (.int .i64 n)] H fun u H' => u = .v (.int .i64 (pk1 l n)) ∧ H' = H := by
  by_cases h1 : n ≤ 1
  · have hsol := hr.solid
    have e : pk1 l n = 0 := if_pos h1
    refine cal_fn 7 mixed Tryz.func19 Tryz.ntmps19 Tryz.results19 rfl rfl rfl fun hw cx hx hq => ?_
    repeat (first | (simp only [go_sem, Int.reduceLT, Int.reduceLE, Int.reduceEq, Int.reduceToNat, hsol]) | ((with_reducible refine And.intro ?_ ?_); omega) | ((with_reducible refine isSK ?_); first | (refine call_ret (l00From hr) (by simp only [go_sem, Int.reduceLT, Int.reduceLE, Int.reduceEq, Int.reduceToNat, hsol]) ?_) | (refine call_ret (pickNo h1) (by simp only [go_sem, Int.reduceLT, Int.reduceLE, Int.reduceEq, Int.reduceToNat, hsol]) ?_)) | ((with_reducible refine And.intro ?_ ?_); first | (with_reducible rfl) | assumption | (simp only [go_sem]; done)))
    refine ret_cut hq hw _ (.inl rfl) ?_
    simp [go_sem, e]
  · have e : pk1 l n = pkV l 0 0 n := if_neg h1
    rw [e]
    exact P6Pick hr h8 hll ⟨by omega, hn⟩
theorem P6Order {H : List Blk} {cv : V} {l : List Int} {n : Nat} (hr : Rd H cv u8C l) (h8 : B8 l) (hll : l.length ≤ 4096) (hn : n ≤ 40) :
    Cal Tryz.prog 6 [cv, .v (.int .i64 n)] H fun u H' => ∃ o : List Int, OrdP o n ∧ u = .s H.length 0 o.length (.u 0) ∧ H' = H ++ [⟨o.flatMap i64C, 2, .own 1⟩] := by
  have hsol := hr.solid
  refine cal_fn 7 mixed Tryz.func6 Tryz.ntmps6 Tryz.results6 rfl rfl rfl fun hw cx hx hq => ?_
  repeat (first | (simp only [go_sem, Int.reduceLT, Int.reduceLE, Int.reduceEq, Int.reduceToNat, hsol]) | ((with_reducible refine And.intro ?_ ?_); omega) | ((with_reducible refine isSK ?_); first | (refine call_ret (l00From hr) (by simp only [go_sem, Int.reduceLT, Int.reduceLE, Int.reduceEq, Int.reduceToNat, hsol]) ?_)) | ((with_reducible refine And.intro ?_ ?_); first | (with_reducible rfl) | assumption | (simp only [go_sem]; done)))
  refine call_ex (l04Mixed0 (a := 0) (sd := 0) hr h8 hll (by omega) (by omega) hn) (by simp only [go_sem]) ?_
  rintro _ _ ⟨o, a', sd', ho, _, _, rfl, rfl⟩
  repeat (first | (simp only [go_sem, Int.reduceLT, Int.reduceLE, Int.reduceEq, Int.reduceToNat, hsol]) | ((with_reducible refine And.intro ?_ ?_); omega) | ((with_reducible refine And.intro ?_ ?_); first | (with_reducible rfl) | assumption | (simp only [go_sem]; done)))
  refine ret_one hq hw _ (.inl rfl) 1 rfl (of_eq_true (flat_i64.lts _ _)) (.s H.length 0 o.length (.u 0)) (by simp [go_sem]) ?_
  simp only [go_sem]
  exact ⟨by simp [conc, upσ, Cap.val], o, ho, rfl, rfl⟩
theorem implJumpsOf {H : List Blk} {v : V} {l : List (Nat → Int)} (h : Rd H v (rowL .u16 12) l) (h12 : ∀ f ∈ l, F12 f) (hl : l.length ≤ 40) :
    Cal Tryz.prog 23 [v] H fun u H' => u = .t [.s H.length 0 (l.length - 1) (.u 0), .v (.int .i64 0)] ∧ H' = H ++ [⟨(jl l (l.length - 1)).flatMap i64C, 2, .own 1⟩] := by
  have hsol := h.solid
  have hok := okB_len h12 hl
  refine cal_fn 8 mixed Tryz.func23 Tryz.ntmps23 Tryz.results23 rfl rfl rfl fun hw cx hx hq => ?_
  repeat (first | (simp only [go_sem, Int.reduceLT, Int.reduceLE, Int.reduceEq, Int.reduceToNat, hsol, hok]) | ((with_reducible refine And.intro ?_ ?_); omega) | ((with_reducible refine isSK ?_); first | (refine call_ret (validBook h (by omega)) (by simp only [go_sem, Int.reduceLT, Int.reduceLE, Int.reduceEq, Int.reduceToNat, hsol, hok]) ?_) | (refine call_ret (jumps h h12 (by omega)) (by simp only [go_sem, Int.reduceLT, Int.reduceLE, Int.reduceEq, Int.reduceToNat, hsol, hok]) ?_)) | ((with_reducible refine And.intro ?_ ?_); first | (with_reducible rfl) | assumption | (simp only [go_sem]; done)))
  refine ret_at hq _ (.inl rfl) (by simp) ?_
  simp [go_sem, jl_len]
theorem specJumpsOf {H : List Blk} {v : V} {l : List (Nat → Int)} (h : Rd H v (rowL .u16 12) l) (h12 : ∀ f ∈ l, F12 f) (hl : l.length ≤ 40) :
    Cal Tryz.prog 22 [v] H fun u H' => u = .t [.s H.length 0 (l.length - 1) (.u 0), .v (.int .i64 0)] ∧ H' = H ++ [⟨(jl l (l.length - 1)).flatMap i64C, 2, .own 1⟩] := by
  have hsol := h.solid
  have hok := okB_len h12 hl
  refine cal_fn 9 mixed Tryz.func22 Tryz.ntmps22 Tryz.results22 rfl rfl rfl fun hw cx hx hq => ?_
  repeat (first | (simp only [go_sem, Int.reduceLT, Int.reduceLE, Int.reduceEq, Int.reduceToNat, hsol, hok]) | ((with_reducible refine And.intro ?_ ?_); omega) | ((with_reducible refine isSK ?_); first | (refine call_ret (l02Ok h (by omega)) (by simp only [go_sem, Int.reduceLT, Int.reduceLE, Int.reduceEq, Int.reduceToNat, hsol, hok]) ?_) | (refine call_ret (l02Jumps h h12 (by omega)) (by simp only [go_sem, Int.reduceLT, Int.reduceLE, Int.reduceEq, Int.reduceToNat, hsol, hok]) ?_)) | ((with_reducible refine And.intro ?_ ?_); first | (with_reducible rfl) | assumption | (simp only [go_sem]; done)))
  refine ret_at hq _ (.inl rfl) (by simp) ?_
  simp [go_sem, jl_len]
theorem differBy {H : List Blk} {f g : Nat → Int} (hf : F12 f) (hg : F12 g) : Cal Tryz.prog 52 [.a (rowL .u16 12 (f)), .a (rowL .u16 12 (g))] H fun u H' => u = .t [.v (.int .i64 (jumpF f g)), .v (.int .i64 0)] ∧ H' = H := by
  have e' : (okF f && okF g) = true := by rw [okF_12 hf, okF_12 hg]; rfl
  refine cal_fn 12 mixed Tryz.func52 Tryz.ntmps52 Tryz.results52 rfl rfl rfl fun hw cx hx hq => ?_
  repeat (first | (simp only [go_sem, Int.reduceLT, Int.reduceLE, Int.reduceEq, Int.reduceToNat, e', rowL_rep]) | ((with_reducible refine And.intro ?_ ?_); omega) | ((with_reducible refine isSK ?_); first | (refine call_ret (areFrames2 (by first | exact At.mk0 rfl | exact At.mk' 1 rfl rfl | exact At.mk' 2 rfl rfl | exact At.mk' 3 rfl rfl | exact At.mk' 4 rfl rfl | exact At.mk' 5 rfl rfl | exact At.mk' 6 rfl rfl | exact At.mk' 7 rfl rfl | exact At.mk' 8 rfl rfl | exact At.mk' 9 rfl rfl | exact At.mk' 10 rfl rfl | exact At.mk' 11 rfl rfl | exact At.mk' 12 rfl rfl | exact At.mk' 13 rfl rfl | exact At.mk' 14 rfl rfl | exact At.mk' 15 rfl rfl)) (by simp only [go_sem, Int.reduceLT, Int.reduceLE, Int.reduceEq, Int.reduceToNat, e', rowL_rep]) ?_) | (refine call_ret (jump hf hg) (by simp only [go_sem, Int.reduceLT, Int.reduceLE, Int.reduceEq, Int.reduceToNat, e', rowL_rep]) ?_)) | ((with_reducible refine And.intro ?_ ?_); first | (with_reducible rfl) | assumption | (simp only [go_sem]; done)))
  refine ret_cut hq hw _ (.inl rfl) ?_
  simp [go_sem]
theorem leap6 {H : List Blk} {v : V} {l : List (Nat → Int)} {i k : Nat} (h : Rd H v (rowL .u16 12) l) (h12 : ∀ f ∈ l, F12 f) (hi : i < l.length) (hk : k < l.length) (hl : l.length ≤ 1000000) :
    Cal Tryz.prog 18 [v, .v (.int .i64 i), .v (.int .i64 k)] H fun u H' => u = .v (.int .i64 (jmp l i k)) ∧ H' = H := by
  have hsol := h.solid
  obtain ⟨j, off, c, b, rfl, hat, hf⟩ := h.full (by omega)
  have a0 := hat.elem (rowL .u16 12) 12 hz12 hi
  have a1 := hat.elem (rowL .u16 12) 12 hz12 hk
  have f0 := hat.fits (rowL .u16 12) 12 hz12 hi (by omega)
  have f1 := hat.fits (rowL .u16 12) 12 hz12 hk (by omega)
  rw [← pg_at] at a0 a1
  have hii : ((i : Int) < (l.length : Int)) = True := eq_true (by omega)
  have hki : ((k : Int) < (l.length : Int)) = True := eq_true (by omega)
  refine cal_fn 21 mixed Tryz.func18 Tryz.ntmps18 Tryz.results18 rfl rfl rfl fun hw cx hx hq => ?_
  repeat (first | (simp only [go_sem, Int.reduceLT, Int.reduceLE, Int.reduceEq, Int.reduceToNat, hat.get, hat.live, hat.lt, a0, a1, f0, f1, hii, hki]) | ((with_reducible refine And.intro ?_ ?_); omega) | ((with_reducible refine isSK ?_); first | (refine call_ret (differBy (pg_12 h12 i) (pg_12 h12 k)) (by simp only [go_sem, Int.reduceLT, Int.reduceLE, Int.reduceEq, Int.reduceToNat, hat.get, hat.live, hat.lt, a0, a1, f0, f1, hii, hki]) ?_)) | ((with_reducible refine isMC ?_); first | (refine mcall_ret (differBy (pg_12 h12 i) (pg_12 h12 k)) (by simp only [go_sem, Int.reduceLT, Int.reduceLE, Int.reduceEq, Int.reduceToNat, hat.get, hat.live, hat.lt, a0, a1, f0, f1, hii, hki]) (by simp only [go_sem, Int.reduceLT, Int.reduceLE, Int.reduceEq, Int.reduceToNat, hat.get, hat.live, hat.lt, a0, a1, f0, f1, hii, hki]) ?_)) | ((with_reducible refine isWKr (id := 1) ?_); refine WK_drawAt 1 [[],[],[0,1],[0,1,2],[],[],[4,5],[4,5,6],[0,1,2,3,4,5,6,7],[0,1,2,3,4,5,6,7,8],[0,1,2,3,4,5,6,7,8,9],[0,1,2,3,4,5,6,7,8,9],[0,1,2,3,4,5,6,7,8,9,10],[0,1,2,3,4,5,6,7,8,9,10,11,12]] (by kernel_rfl) ?_) | ((with_reducible refine And.intro ?_ ?_); first | (with_reducible rfl) | assumption | (simp only [go_sem]; done)))
  refine ret_same hq _ (.inl rfl) ?_
  simp [go_sem, jmp]
theorem sameTurns {H : List Blk} {v v2 : V} {l : List (Nat → Int)} (h : Rd H v (rowL .i64 2) l) (h2 : Rd H v2 (rowL .i64 2) l) (hl : l.length ≤ 1000000000) : Cal Tryz.prog 12 [v, v2] H fun u H' => u = .v (.bool true) ∧ H' = H := by
  have hsol := h.solid
  have hsol2 := h2.solid
  have hL := h.lenV (P := Tryz.prog) slTy29
  have hL2 := h2.lenV (P := Tryz.prog) slTy29
  refine cal_fn 24 mixed Tryz.func12 Tryz.ntmps12 Tryz.results12 rfl rfl rfl fun hw cx hx hq => ?_
  repeat (first | (simp only [go_sem, Int.reduceLT, Int.reduceLE, Int.reduceEq, Int.reduceToNat, hsol, hsol2, hL, hL2]) | ((with_reducible refine And.intro ?_ ?_); omega) | ((with_reducible refine isWKr (id := 6) ?_); refine WK_drawAt 6 [[],[],[0,1],[0,1,2],[],[],[4,5],[4,5,6],[0,1,2,3,4,5,6,7]] (by kernel_rfl) ?_) | ((with_reducible refine And.intro ?_ ?_); first | (with_reducible rfl) | assumption | (simp only [go_sem]; done)))
  refine WK_for (fun n : Nat => ⟨[v, v2, .any, .any, .any, .v (.int .i64 n)] ++ junk 20, H⟩) (fun n => n ≤ l.length) (fun n => l.length - n) 0 (Weak.slots ?_) ?_ fun n hn => ?_
  · simp [go_sem]
  · simp
  rcases Int.lt_or_le (n : Int) l.length with hc | hc
  · have hj : n < l.length := by omega
    obtain ⟨i, off, c, bl, rfl, hat⟩ := h.row (by omega)
    obtain ⟨i2, off2, c2, bl2, rfl, hat2⟩ := h2.row (by omega)
    have hfit := hat.fits (rowL .i64 2) 2 (fun _ => rowL_length ..) hj (by omega)
    have hfit2 := hat2.fits (rowL .i64 2) 2 (fun _ => rowL_length ..) hj (by omega)
    have e1 := hat.elem (rowL .i64 2) 2 (fun _ => rowL_length ..) hj
    have e2 := hat2.elem (rowL .i64 2) 2 (fun _ => rowL_length ..) hj
    have ok2 : ∀ f : Nat → Int, okV [KD.i .i64, KD.i .i64] (rowL .i64 2 f) = true := fun _ => rfl
    repeat (first | (simp only [go_sem, Int.reduceLT, Int.reduceLE, Int.reduceEq, Int.reduceToNat, hL, hL2, hc, hat.lt, hat.get, hat.live, e1, hat2.lt, hat2.get, hat2.live, e2, allEq_self, ok2]) | ((with_reducible refine And.intro ?_ ?_); omega) | ((with_reducible refine isWKr (id := 6) ?_); refine WK_drawAt 6 [[],[],[0,1],[0,1,2],[],[],[4,5],[4,5,6],[0,1,2,3,4,5,6,7]] (by kernel_rfl) ?_) | ((with_reducible refine And.intro ?_ ?_); first | (with_reducible rfl) | assumption | (simp only [go_sem]; done)))
    refine EK_again (n + 1) (Weak.slots (by simp [go_sem])) (by omega) (by omega)
  · repeat (first | (simp only [go_sem, Int.reduceLT, Int.reduceLE, Int.reduceEq, Int.reduceToNat, hL, Int.not_lt.2 hc]) | ((with_reducible refine And.intro ?_ ?_); omega) | ((with_reducible refine isWKr (id := 6) ?_); refine WK_drawAt 6 [[],[],[0,1],[0,1,2],[],[],[4,5],[4,5,6],[0,1,2,3,4,5,6,7]] (by kernel_rfl) ?_) | ((with_reducible refine And.intro ?_ ?_); first | (with_reducible rfl) | assumption | (simp only [go_sem]; done)))
    refine ret_same hq _ (.inl rfl) ?_
    simp [go_sem]
end Go.Proofs.YtaekjojblkhfdaaGreat
