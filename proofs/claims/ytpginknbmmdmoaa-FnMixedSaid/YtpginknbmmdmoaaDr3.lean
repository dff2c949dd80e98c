/- Contracts of functions of the translated program, by the walk. -/
import Derived.Test.YtpginknbmmdmoaaDr2
import Derived.Test.YtpginknbmmdmoaaC1
set_option linter.unusedVariables false
set_option linter.unusedSimpArgs false
set_option maxRecDepth 8000
set_option maxHeartbeats 4000000
namespace Go.Proofs.Ytpginknbmmdmoaa
open Go Go.Sx
open Go.RowKit
theorem xor16 {a b : Int} (ha : 0 ≤ a ∧ a ≤ 4095) (hb : 0 ≤ b ∧ b ≤ 4095) : 0 ≤ bits .xor .u16 a b ∧ bits .xor .u16 a b ≤ 4095 := by
  rw [u16_xor _ _ ha.1 (by omega) hb.1 (by omega)]
  have := Nat.xor_lt_two_pow (n := 12) (x := a.toNat) (y := b.toNat) (by omega) (by omega)
  omega
theorem f12_upd {f : Nat → Int} (h : F12 f) {j : Nat} {x : Int} (hx : 0 ≤ x ∧ x ≤ 4095) : F12 (Go.Sx.upd f j x) := fun i hi => by
  unfold Go.Sx.upd
  split
  · exact hx
  · exact h i hi
theorem l04Few {H : List Blk} {cv : V} {l : List Int} (hr : Rd H cv u8C l) (h8 : B8 l) (hll : l.length ≤ 4096) :
    Cal Try.prog 125 [.p H.length 0] (H ++ [⟨[cv, .v (.int .i64 0), .v (.int .u64 0)], 173, .fix⟩]) fun u H' => ∃ (b : List (Nat → Int)) (j : Nat) (L : List Blk), b.length ≤ 6 ∧ (∀ f ∈ b, F12 f) ∧
      u = .s (H.length + j) 0 b.length (.u 0) ∧ H' = H ++ L ∧ L[j]? = some ⟨b.flatMap (rowL .u16 12), 24, .own 12⟩ := by
  have hsol := hr.solid
  refine cal_fn 46 mixed Try.func125 Try.ntmps125 Try.results125 rfl rfl rfl fun hw cx hx hq => ?_
  have hx2 : cx.n0 = H.length + 1 := by rw [hx]; simp
  have k0 := pkV_range h8 0 0 (n := 7) (by omega)
  repeat (first | (simp only [go_sem, Int.reduceLT, Int.reduceLE, Int.reduceEq, Int.reduceToNat, rowL_rep, rowL_length, hx2]) | ((with_reducible refine And.intro ?_ ?_); omega) | ((with_reducible refine isSK ?_); first | (refine call_ret (pick (i := H.length) (a := 0) (sd := 0) (n := 7) (l := l) (k := .fix) (by first | exact (Go.Sx.get_at0 _ _).trans rfl | exact (Go.Sx.get_at _ _ 1).trans rfl | exact (Go.Sx.get_at _ _ 2).trans rfl | exact (Go.Sx.get_at _ _ 3).trans rfl | exact (Go.Sx.get_at _ _ 4).trans rfl | exact (Go.Sx.get_at _ _ 5).trans rfl | exact (Go.Sx.get_at _ _ 6).trans rfl | exact (Go.Sx.get_at _ _ 7).trans rfl | exact (Go.Sx.get_at _ _ 8).trans rfl | exact (Go.Sx.get_at _ _ 9).trans rfl | exact (Go.Sx.get_at _ _ 10).trans rfl | exact (Go.Sx.get_at _ _ 11).trans rfl | exact (Go.Sx.get_at _ _ 12).trans rfl | exact (Go.Sx.get_at _ _ 13).trans rfl | exact (Go.Sx.get_at _ _ 14).trans rfl | exact (Go.Sx.get_at _ _ 15).trans rfl) rfl rfl hr.app h8 hll (by omega) (by omega) (by omega)) (by simp only [go_sem, Int.reduceLT, Int.reduceLE, Int.reduceEq, Int.reduceToNat, rowL_rep, rowL_length, hx2]) ?_)) | ((with_reducible refine isMC ?_); first | (refine mcall_ret (pick (i := H.length) (a := 0) (sd := 0) (n := 7) (l := l) (k := .fix) (by first | exact (Go.Sx.get_at0 _ _).trans rfl | exact (Go.Sx.get_at _ _ 1).trans rfl | exact (Go.Sx.get_at _ _ 2).trans rfl | exact (Go.Sx.get_at _ _ 3).trans rfl | exact (Go.Sx.get_at _ _ 4).trans rfl | exact (Go.Sx.get_at _ _ 5).trans rfl | exact (Go.Sx.get_at _ _ 6).trans rfl | exact (Go.Sx.get_at _ _ 7).trans rfl | exact (Go.Sx.get_at _ _ 8).trans rfl | exact (Go.Sx.get_at _ _ 9).trans rfl | exact (Go.Sx.get_at _ _ 10).trans rfl | exact (Go.Sx.get_at _ _ 11).trans rfl | exact (Go.Sx.get_at _ _ 12).trans rfl | exact (Go.Sx.get_at _ _ 13).trans rfl | exact (Go.Sx.get_at _ _ 14).trans rfl | exact (Go.Sx.get_at _ _ 15).trans rfl) rfl rfl hr.app h8 hll (by omega) (by omega) (by omega)) (by simp only [go_sem, Int.reduceLT, Int.reduceLE, Int.reduceEq, Int.reduceToNat, rowL_rep, rowL_length, hx2]) (by simp only [go_sem, Int.reduceLT, Int.reduceLE, Int.reduceEq, Int.reduceToNat, rowL_rep, rowL_length, hx2]) ?_)) | ((with_reducible refine And.intro ?_ ?_); first | (with_reducible rfl) | assumption | (simp only [go_sem]; done)))
  refine WK_for (fun q : (Nat × List (Nat → Int)) × (Nat → Int) × (Nat × Int) => ⟨[.p H.length 0, .any, .any, .s (H.length + 1) 0 q.1.2.length (.u 0), .p (H.length + 2) 0, .v (.int .i64 q.1.1)] ++ junk 41, H ++ [⟨[cv, .v (.int .i64 (q.2.2.1 : Int)), .v (.int .u64 q.2.2.2)], 173, .fix⟩, ⟨q.1.2.flatMap (rowL .u16 12), 24, .own 12⟩, ⟨rowL .u16 12 (q.2.1), 24, .fix⟩]⟩) (fun q => q.1.1 + q.1.2.length ≤ 6 ∧ (∀ f ∈ q.1.2, F12 f) ∧ F12 q.2.1 ∧ q.2.2.1 + 7 * q.1.1 ≤ 50 ∧ (0 ≤ q.2.2.2 ∧ q.2.2.2 ≤ 18446744073709551615)) (fun q => q.1.1) (((pkV l 0 0 7).toNat, []), (zeroF, (1, nxS l 0 0))) (Weak.slots ?_) ?_ fun q hq0 => ?_
  · simp [go_sem, Int.toNat_of_nonneg k0.1]
    trace_state
  · refine ⟨?_, ?_, ?_, ?_, nxS_range _ _ _⟩
    · simp; omega
    · simp
    · intro j _; simp [zeroF]
    · simp; omega
  obtain ⟨⟨kk, acc⟩, ⟨f, ⟨a1, s1⟩⟩⟩ := q
  obtain ⟨hk6, hacc, hf, ha1, hs1⟩ := hq0
  simp only at hk6 hacc hf ha1 hs1 ⊢
  have hla : (acc.flatMap (rowL .u16 12)).length = acc.length * 12 := flat_len _ 12 hz12 acc
  have g1 : norefH (H.length + 1) H := norefH_left hw (by simp)
  have n1 : norefs (H.length + 1) (acc.flatMap (rowL .u16 12)) = true := (flat_rowL .u16 12).norefs _ _
  have hcv1 : V.noref (H.length + 1) cv = true := hr.noref (by omega)
  have hcl : ∀ m, H.length ≤ m → V.lt m cv = True := fun m hm => hr.vlt hm
  have hcl3 := hcl (H.length + 3) (by omega)
  have q1 : (H.length = H.length + 1) = False := eq_false (by omega)
  have q2 : (H.length + 2 = H.length + 1) = False := eq_false (by omega)
  have q3 : (H.length + 3 = H.length + 1) = False := eq_false (by omega)
  have q4 : (H.length + 4 = H.length + 1) = False := eq_false (by omega)
  by_cases hk0 : kk = 0
  · have hz2 : ((0 : Int) < (kk : Int)) = False := eq_false (by omega)
    have hone := one (H := H ++ [⟨[cv, .v (.int .i64 (a1 : Int)), .v (.int .u64 s1)], 173, .fix⟩, ⟨acc.flatMap (rowL .u16 12), 24, .own 12⟩, ⟨rowL .u16 12 (f), 24, .fix⟩]) (i := H.length) (a := a1) (sd := s1) (n := 2) (l := l) (k := .fix) (by first | exact (Go.Sx.get_at0 _ _).trans rfl | exact (Go.Sx.get_at _ _ 1).trans rfl | exact (Go.Sx.get_at _ _ 2).trans rfl | exact (Go.Sx.get_at _ _ 3).trans rfl | exact (Go.Sx.get_at _ _ 4).trans rfl | exact (Go.Sx.get_at _ _ 5).trans rfl | exact (Go.Sx.get_at _ _ 6).trans rfl | exact (Go.Sx.get_at _ _ 7).trans rfl | exact (Go.Sx.get_at _ _ 8).trans rfl | exact (Go.Sx.get_at _ _ 9).trans rfl | exact (Go.Sx.get_at _ _ 10).trans rfl | exact (Go.Sx.get_at _ _ 11).trans rfl | exact (Go.Sx.get_at _ _ 12).trans rfl | exact (Go.Sx.get_at _ _ 13).trans rfl | exact (Go.Sx.get_at _ _ 14).trans rfl | exact (Go.Sx.get_at _ _ 15).trans rfl) rfl rfl hr.app h8 hll (by omega) hs1 (by omega)
    have hns := nxS_range l a1 s1
    by_cases h1 : pkV l a1 s1 2 = 0
    · have h1d : decide (pkV l a1 s1 2 = 0) = true := decide_eq_true h1
      rw [h1d] at hone
      repeat (first | (simp only [go_sem, Int.reduceLT, Int.reduceLE, Int.reduceEq, Int.reduceToNat, hz2, hx2]) | ((with_reducible refine And.intro ?_ ?_); omega) | ((with_reducible refine isSK ?_); first | (refine call_ret (hone) (by simp only [go_sem, Int.reduceLT, Int.reduceLE, Int.reduceEq, Int.reduceToNat, hz2, hx2]) ?_)) | ((with_reducible refine isMC ?_); first | (refine mcall_ret (hone) (by simp only [go_sem, Int.reduceLT, Int.reduceLE, Int.reduceEq, Int.reduceToNat, hz2, hx2]) (by simp only [go_sem, Int.reduceLT, Int.reduceLE, Int.reduceEq, Int.reduceToNat, hz2, hx2]) ?_)) | ((with_reducible refine And.intro ?_ ?_); first | (with_reducible rfl) | assumption | (simp only [go_sem]; done)))
      refine call_ex (l04Mixed2 (a := a1 + 1) (n := acc.length) (sd := nxS l a1 s1) (cv := cv) (l := l) hr h8 hll (by omega) hns (by omega)) (by simp only [go_sem]) ?_
      rintro _ _ ⟨o, a', sd', ho, ha', hs', rfl, rfl⟩
      repeat (first | (simp only [go_sem, Int.reduceLT, Int.reduceLE, Int.reduceEq, Int.reduceToNat, hz2, hx2]) | ((with_reducible refine And.intro ?_ ?_); omega) | ((with_reducible refine isSK ?_); first | (refine call_ret (l04Pages (l := acc) (o := o) (Rd.own 1 rfl rfl rfl) (Rd.own 3 rfl rfl rfl) ho.2.1 (by have := ho.1; omega)) (by simp only [go_sem, Int.reduceLT, Int.reduceLE, Int.reduceEq, Int.reduceToNat, hz2, hx2]) ?_)) | ((with_reducible refine isMC ?_); first | (refine mcall_ret (l04Pages (l := acc) (o := o) (Rd.own 1 rfl rfl rfl) (Rd.own 3 rfl rfl rfl) ho.2.1 (by have := ho.1; omega)) (by simp only [go_sem, Int.reduceLT, Int.reduceLE, Int.reduceEq, Int.reduceToNat, hz2, hx2]) (by simp only [go_sem, Int.reduceLT, Int.reduceLE, Int.reduceEq, Int.reduceToNat, hz2, hx2]) ?_)) | ((with_reducible refine And.intro ?_ ?_); first | (with_reducible rfl) | assumption | (simp only [go_sem]; done)))
      refine ret_at hq _ (.inl rfl) (by simp) ?_
      simp only [go_sem]
      refine ⟨inO acc o, 5, _, by rw [inO_len, ho.1]; omega, inO_12 hacc o, rfl, rfl, rfl⟩
    · have h1d : decide (pkV l a1 s1 2 = 0) = false := decide_eq_false h1
      rw [h1d] at hone
      repeat (first | (simp only [go_sem, Int.reduceLT, Int.reduceLE, Int.reduceEq, Int.reduceToNat, hz2, hx2]) | ((with_reducible refine And.intro ?_ ?_); omega) | ((with_reducible refine isSK ?_); first | (refine call_ret (hone) (by simp only [go_sem, Int.reduceLT, Int.reduceLE, Int.reduceEq, Int.reduceToNat, hz2, hx2]) ?_)) | ((with_reducible refine isMC ?_); first | (refine mcall_ret (hone) (by simp only [go_sem, Int.reduceLT, Int.reduceLE, Int.reduceEq, Int.reduceToNat, hz2, hx2]) (by simp only [go_sem, Int.reduceLT, Int.reduceLE, Int.reduceEq, Int.reduceToNat, hz2, hx2]) ?_)) | ((with_reducible refine And.intro ?_ ?_); first | (with_reducible rfl) | assumption | (simp only [go_sem]; done)))
      refine ret_at hq _ (.inl rfl) (by simp) ?_
      simp only [go_sem]
      refine ⟨acc, 1, _, by omega, hacc, rfl, rfl, rfl⟩
  have hz2 : ((0 : Int) < (kk : Int)) = True := eq_true (by omega)
  have k3 := pkV_range h8 a1 s1 (n := 3) (by omega)
  have hns := nxS_range l a1 s1
  obtain ⟨n3, hn3⟩ : ∃ n3 : Nat, pkV l a1 s1 3 = n3 := ⟨(pkV l a1 s1 3).toNat, by omega⟩
  rw [hn3] at k3
  repeat (first | (simp only [go_sem, Int.reduceLT, Int.reduceLE, Int.reduceEq, Int.reduceToNat, hz2, hx2, hn3]) | ((with_reducible refine And.intro ?_ ?_); omega) | ((with_reducible refine isSK ?_); first | (refine call_ret (pick (i := H.length) (a := a1) (sd := s1) (n := 3) (l := l) (k := .fix) (by first | exact (Go.Sx.get_at0 _ _).trans rfl | exact (Go.Sx.get_at _ _ 1).trans rfl | exact (Go.Sx.get_at _ _ 2).trans rfl | exact (Go.Sx.get_at _ _ 3).trans rfl | exact (Go.Sx.get_at _ _ 4).trans rfl | exact (Go.Sx.get_at _ _ 5).trans rfl | exact (Go.Sx.get_at _ _ 6).trans rfl | exact (Go.Sx.get_at _ _ 7).trans rfl | exact (Go.Sx.get_at _ _ 8).trans rfl | exact (Go.Sx.get_at _ _ 9).trans rfl | exact (Go.Sx.get_at _ _ 10).trans rfl | exact (Go.Sx.get_at _ _ 11).trans rfl | exact (Go.Sx.get_at _ _ 12).trans rfl | exact (Go.Sx.get_at _ _ 13).trans rfl | exact (Go.Sx.get_at _ _ 14).trans rfl | exact (Go.Sx.get_at _ _ 15).trans rfl) rfl rfl hr.app h8 hll (by omega) hs1 (by omega)) (by simp only [go_sem, Int.reduceLT, Int.reduceLE, Int.reduceEq, Int.reduceToNat, hz2, hx2, hn3]) ?_)) | ((with_reducible refine isMC ?_); first | (refine mcall_ret (pick (i := H.length) (a := a1) (sd := s1) (n := 3) (l := l) (k := .fix) (by first | exact (Go.Sx.get_at0 _ _).trans rfl | exact (Go.Sx.get_at _ _ 1).trans rfl | exact (Go.Sx.get_at _ _ 2).trans rfl | exact (Go.Sx.get_at _ _ 3).trans rfl | exact (Go.Sx.get_at _ _ 4).trans rfl | exact (Go.Sx.get_at _ _ 5).trans rfl | exact (Go.Sx.get_at _ _ 6).trans rfl | exact (Go.Sx.get_at _ _ 7).trans rfl | exact (Go.Sx.get_at _ _ 8).trans rfl | exact (Go.Sx.get_at _ _ 9).trans rfl | exact (Go.Sx.get_at _ _ 10).trans rfl | exact (Go.Sx.get_at _ _ 11).trans rfl | exact (Go.Sx.get_at _ _ 12).trans rfl | exact (Go.Sx.get_at _ _ 13).trans rfl | exact (Go.Sx.get_at _ _ 14).trans rfl | exact (Go.Sx.get_at _ _ 15).trans rfl) rfl rfl hr.app h8 hll (by omega) hs1 (by omega)) (by simp only [go_sem, Int.reduceLT, Int.reduceLE, Int.reduceEq, Int.reduceToNat, hz2, hx2, hn3]) (by simp only [go_sem, Int.reduceLT, Int.reduceLE, Int.reduceEq, Int.reduceToNat, hz2, hx2, hn3]) ?_)) | ((with_reducible refine And.intro ?_ ?_); first | (with_reducible rfl) | assumption | (simp only [go_sem]; done)))
  refine WK_for (fun q : Nat × (Nat → Int) × (Nat × Int) => ⟨[.p H.length 0, .any, .any, .s (H.length + 1) 0 acc.length (.u 0), .p (H.length + 2) 0, .v (.int .i64 kk), .v (.int .i64 q.1)] ++ junk 40, H ++ [⟨[cv, .v (.int .i64 (q.2.2.1 : Int)), .v (.int .u64 q.2.2.2)], 173, .fix⟩, ⟨acc.flatMap (rowL .u16 12), 24, .own 12⟩, ⟨rowL .u16 12 (q.2.1), 24, .fix⟩]⟩) (fun q => q.1 ≤ 3 ∧ F12 q.2.1 ∧ q.2.2.1 + 2 * q.1 + 7 * (kk - 1) ≤ 50 ∧ (0 ≤ q.2.2.2 ∧ q.2.2.2 ≤ 18446744073709551615)) (fun q => q.1) (n3 + 1, (f, (a1 + 1, nxS l a1 s1))) (Weak.slots ?_) ?_ fun q hq1 => ?_
  · simp [go_sem, Int.add_comm]
  · exact ⟨by dsimp only; omega, hf, by dsimp only; omega, hns⟩
  obtain ⟨nn, ⟨f2, ⟨a2, s2⟩⟩⟩ := q
  obtain ⟨hn2, hf2, ha2, hs2⟩ := hq1
  simp only at hn2 hf2 ha2 hs2 ⊢
  by_cases hnn : nn = 0
  · have hz3 : ((0 : Int) < (nn : Int)) = False := eq_false (by omega)
    repeat (first | (simp only [go_sem, Int.reduceLT, Int.reduceLE, Int.reduceEq, Int.reduceToNat, hz3, hx2, rowL_rep, rowL_length, hla, g1, n1, hcv1, q1, q2, q3, q4]) | ((with_reducible refine And.intro ?_ ?_); omega) | ((with_reducible refine And.intro ?_ ?_); first | (with_reducible rfl) | assumption | (simp only [go_sem]; done)))
    refine EK_again ((kk - 1, acc ++ [f2]), (f2, (a2, s2))) ?_ ⟨by dsimp only; rw [List.length_append, List.length_singleton]; omega, fun g hg => ?_, hf2, by dsimp only; omega, hs2⟩ (by dsimp only; omega)
    · have e4 : ((kk - 1 : Nat) : Int) = (kk : Int) - 1 := by omega
      dsimp only
      rw [e4, List.flatMap_append, List.flatMap_singleton, List.length_append, List.length_singleton]
      exact Weak.keepN rfl (by simp [go_sem] <;> omega) (by simp [hx]) (by simp [go_sem] <;> omega) (hw.re (by simp) (by simp [go_sem, hcl3, (flat_rowL .u16 12).lts]))
    · rcases List.mem_append.1 hg with hg | hg
      · exact hacc g hg
      · simp at hg; subst hg; exact hf2
  have hz3 : ((0 : Int) < (nn : Int)) = True := eq_true (by omega)
  have k4 := pkV_range h8 a2 s2 (n := 4) (by omega)
  have hns4 := nxS_range l a2 s2
  have k5 := pkV_range h8 (a2 + 1) (nxS l a2 s2) (n := 3) (by omega)
  have hns5 := nxS_range l (a2 + 1) (nxS l a2 s2)
  obtain ⟨x, hx4⟩ : ∃ x : Nat, pkV l a2 s2 4 = x := ⟨(pkV l a2 s2 4).toNat, by omega⟩
  obtain ⟨y, hy3⟩ : ∃ y : Nat, pkV l (a2 + 1) (nxS l a2 s2) 3 = y := ⟨(pkV l (a2 + 1) (nxS l a2 s2) 3).toNat, by omega⟩
  rw [hx4] at k4
  rw [hy3] at k5
  have hwx : IntKind.u64.wrap (x : Int) = x := wrap_u64 (by omega) (by omega)
  have hy12 : y < 12 := by omega
  repeat (first | (simp only [go_sem, Int.reduceLT, Int.reduceLE, Int.reduceEq, Int.reduceToNat, hz3, hx2, hx4, hy3, hwx, rowL_cel _ _ _ hy12, rowL_wr _ _ _ hy12]) | ((with_reducible refine And.intro ?_ ?_); omega) | ((with_reducible refine isSK ?_); first | (refine call_ret (pick (i := H.length) (a := a2) (sd := s2) (n := 4) (l := l) (k := .fix) (by first | exact (Go.Sx.get_at0 _ _).trans rfl | exact (Go.Sx.get_at _ _ 1).trans rfl | exact (Go.Sx.get_at _ _ 2).trans rfl | exact (Go.Sx.get_at _ _ 3).trans rfl | exact (Go.Sx.get_at _ _ 4).trans rfl | exact (Go.Sx.get_at _ _ 5).trans rfl | exact (Go.Sx.get_at _ _ 6).trans rfl | exact (Go.Sx.get_at _ _ 7).trans rfl | exact (Go.Sx.get_at _ _ 8).trans rfl | exact (Go.Sx.get_at _ _ 9).trans rfl | exact (Go.Sx.get_at _ _ 10).trans rfl | exact (Go.Sx.get_at _ _ 11).trans rfl | exact (Go.Sx.get_at _ _ 12).trans rfl | exact (Go.Sx.get_at _ _ 13).trans rfl | exact (Go.Sx.get_at _ _ 14).trans rfl | exact (Go.Sx.get_at _ _ 15).trans rfl) rfl rfl hr.app h8 hll (by omega) hs2 (by omega)) (by simp only [go_sem, Int.reduceLT, Int.reduceLE, Int.reduceEq, Int.reduceToNat, hz3, hx2, hx4, hy3, hwx, rowL_cel _ _ _ hy12, rowL_wr _ _ _ hy12]) ?_) | (refine call_ret (pick (i := H.length) (a := a2 + 1) (sd := (nxS l a2 s2)) (n := 3) (l := l) (k := .fix) (by first | exact (Go.Sx.get_at0 _ _).trans rfl | exact (Go.Sx.get_at _ _ 1).trans rfl | exact (Go.Sx.get_at _ _ 2).trans rfl | exact (Go.Sx.get_at _ _ 3).trans rfl | exact (Go.Sx.get_at _ _ 4).trans rfl | exact (Go.Sx.get_at _ _ 5).trans rfl | exact (Go.Sx.get_at _ _ 6).trans rfl | exact (Go.Sx.get_at _ _ 7).trans rfl | exact (Go.Sx.get_at _ _ 8).trans rfl | exact (Go.Sx.get_at _ _ 9).trans rfl | exact (Go.Sx.get_at _ _ 10).trans rfl | exact (Go.Sx.get_at _ _ 11).trans rfl | exact (Go.Sx.get_at _ _ 12).trans rfl | exact (Go.Sx.get_at _ _ 13).trans rfl | exact (Go.Sx.get_at _ _ 14).trans rfl | exact (Go.Sx.get_at _ _ 15).trans rfl) rfl rfl hr.app h8 hll (by omega) hns4 (by omega)) (by simp only [go_sem, Int.reduceLT, Int.reduceLE, Int.reduceEq, Int.reduceToNat, hz3, hx2, hx4, hy3, hwx, rowL_cel _ _ _ hy12, rowL_wr _ _ _ hy12]) ?_)) | ((with_reducible refine isMC ?_); first | (refine mcall_ret (pick (i := H.length) (a := a2) (sd := s2) (n := 4) (l := l) (k := .fix) (by first | exact (Go.Sx.get_at0 _ _).trans rfl | exact (Go.Sx.get_at _ _ 1).trans rfl | exact (Go.Sx.get_at _ _ 2).trans rfl | exact (Go.Sx.get_at _ _ 3).trans rfl | exact (Go.Sx.get_at _ _ 4).trans rfl | exact (Go.Sx.get_at _ _ 5).trans rfl | exact (Go.Sx.get_at _ _ 6).trans rfl | exact (Go.Sx.get_at _ _ 7).trans rfl | exact (Go.Sx.get_at _ _ 8).trans rfl | exact (Go.Sx.get_at _ _ 9).trans rfl | exact (Go.Sx.get_at _ _ 10).trans rfl | exact (Go.Sx.get_at _ _ 11).trans rfl | exact (Go.Sx.get_at _ _ 12).trans rfl | exact (Go.Sx.get_at _ _ 13).trans rfl | exact (Go.Sx.get_at _ _ 14).trans rfl | exact (Go.Sx.get_at _ _ 15).trans rfl) rfl rfl hr.app h8 hll (by omega) hs2 (by omega)) (by simp only [go_sem, Int.reduceLT, Int.reduceLE, Int.reduceEq, Int.reduceToNat, hz3, hx2, hx4, hy3, hwx, rowL_cel _ _ _ hy12, rowL_wr _ _ _ hy12]) (by simp only [go_sem, Int.reduceLT, Int.reduceLE, Int.reduceEq, Int.reduceToNat, hz3, hx2, hx4, hy3, hwx, rowL_cel _ _ _ hy12, rowL_wr _ _ _ hy12]) ?_) | (refine mcall_ret (pick (i := H.length) (a := a2 + 1) (sd := (nxS l a2 s2)) (n := 3) (l := l) (k := .fix) (by first | exact (Go.Sx.get_at0 _ _).trans rfl | exact (Go.Sx.get_at _ _ 1).trans rfl | exact (Go.Sx.get_at _ _ 2).trans rfl | exact (Go.Sx.get_at _ _ 3).trans rfl | exact (Go.Sx.get_at _ _ 4).trans rfl | exact (Go.Sx.get_at _ _ 5).trans rfl | exact (Go.Sx.get_at _ _ 6).trans rfl | exact (Go.Sx.get_at _ _ 7).trans rfl | exact (Go.Sx.get_at _ _ 8).trans rfl | exact (Go.Sx.get_at _ _ 9).trans rfl | exact (Go.Sx.get_at _ _ 10).trans rfl | exact (Go.Sx.get_at _ _ 11).trans rfl | exact (Go.Sx.get_at _ _ 12).trans rfl | exact (Go.Sx.get_at _ _ 13).trans rfl | exact (Go.Sx.get_at _ _ 14).trans rfl | exact (Go.Sx.get_at _ _ 15).trans rfl) rfl rfl hr.app h8 hll (by omega) hns4 (by omega)) (by simp only [go_sem, Int.reduceLT, Int.reduceLE, Int.reduceEq, Int.reduceToNat, hz3, hx2, hx4, hy3, hwx, rowL_cel _ _ _ hy12, rowL_wr _ _ _ hy12]) (by simp only [go_sem, Int.reduceLT, Int.reduceLE, Int.reduceEq, Int.reduceToNat, hz3, hx2, hx4, hy3, hwx, rowL_cel _ _ _ hy12, rowL_wr _ _ _ hy12]) ?_)) | ((with_reducible refine And.intro ?_ ?_); first | (with_reducible rfl) | assumption | (simp only [go_sem]; done)))
  have h2x : 0 ≤ IntKind.u16.wrap (1 * 2 ^ min x 16) ∧ IntKind.u16.wrap (1 * 2 ^ min x 16) ≤ 4095 := by
    have : x = 0 ∨ x = 1 ∨ x = 2 ∨ x = 3 := by omega
    rcases this with rfl | rfl | rfl | rfl <;> decide
  refine EK_again (nn - 1, (upd f2 y (bits .xor .u16 (f2 y) (IntKind.u16.wrap (1 * 2 ^ min x 16))), (a2 + 2, nxS l (a2 + 1) (nxS l a2 s2)))) (Weak.slots ?_) ⟨by dsimp only; omega, f12_upd hf2 (xor16 (hf2 y hy12) h2x), by dsimp only; omega, hns5⟩ (by dsimp only; omega)
  have e4 : ((nn - 1 : Nat) : Int) = (nn : Int) - 1 := by omega
  simp [go_sem, e4]
theorem P6Book {H : List Blk} {cv : V} {l : List Int} (hr : Rd H cv u8C l) (h8 : B8 l) (hll : l.length ≤ 4096) :
    Cal Try.prog 63 [cv] H fun u H' => ∃ b : List (Nat → Int), b.length ≤ 6 ∧ (∀ f ∈ b, F12 f) ∧ u = .s H.length 0 b.length (.u 0) ∧ H' = H ++ [⟨b.flatMap (rowL .u16 12), 24, .own 12⟩] := by
  have hsol := hr.solid
  refine cal_fn 5 mixed Try.func63 Try.ntmps63 Try.results63 rfl rfl rfl fun hw cx hx hq => ?_
  repeat (first | (simp only [go_sem, Int.reduceLT, Int.reduceLE, Int.reduceEq, Int.reduceToNat, hsol]) | ((with_reducible refine And.intro ?_ ?_); omega) | ((with_reducible refine isSK ?_); first | (refine call_ret (l00From hr) (by simp only [go_sem, Int.reduceLT, Int.reduceLE, Int.reduceEq, Int.reduceToNat, hsol]) ?_)) | ((with_reducible refine isMC ?_); first | (refine mcall_ret (l00From hr) (by simp only [go_sem, Int.reduceLT, Int.reduceLE, Int.reduceEq, Int.reduceToNat, hsol]) (by simp only [go_sem, Int.reduceLT, Int.reduceLE, Int.reduceEq, Int.reduceToNat, hsol]) ?_)) | ((with_reducible refine And.intro ?_ ?_); first | (with_reducible rfl) | assumption | (simp only [go_sem]; done)))
  refine call_ex (l04Few hr h8 hll) (by simp only [go_sem]) ?_
  rintro _ _ ⟨b, j, L, h6, h12, rfl, rfl, hL⟩
  repeat (first | (simp only [go_sem, Int.reduceLT, Int.reduceLE, Int.reduceEq, Int.reduceToNat, hsol]) | ((with_reducible refine And.intro ?_ ?_); omega) | ((with_reducible refine And.intro ?_ ?_); first | (with_reducible rfl) | assumption | (simp only [go_sem]; done)))
  refine ret_one hq hw _ (.inl rfl) j hL (by rw [(flat_rowL .u16 12).lts]; trivial) (.s H.length 0 b.length (.u 0)) (by simp [go_sem]) ?_
  simp only [go_sem]
  refine ⟨by simp [conc, upσ, Cap.val], b, h6, h12, rfl, rfl⟩
end Go.Proofs.Ytpginknbmmdmoaa

