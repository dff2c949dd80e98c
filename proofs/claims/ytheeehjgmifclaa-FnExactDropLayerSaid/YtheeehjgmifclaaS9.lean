/- Contracts of functions of the translated program, by the walk. -/
import Derived.Test.YtheeehjgmifclaaS2
import Derived.Test.YtheeehjgmifclaaLD
set_option linter.unusedVariables false
set_option linter.unusedSimpArgs false
set_option maxRecDepth 8000
set_option maxHeartbeats 4000000
namespace Go.Proofs.Ytheeehjgmifclaa
open Go Go.Sx
theorem markScene {H : List Blk} {i N : Nat} {c : Cap} {F : Nat → Int} {rest : List V} {ty : TypeId} {kd : BK} {k : Int} (h : H[i]? = some ⟨rowK kL (N * 27) F ++ rest, ty, kd⟩) (hk : kd.mut = true) (hl : N ≤ 1000000) (hk0 : 0 ≤ k ∧ k ≤ 1000000000) :
    Cal Try.prog 21 [.s i 0 N c, .v (.int .i64 k)] H fun u H' => u = .v (.int .i64 (k + (N * 27 : Nat))) ∧ H' = H.set i ⟨rowK kL (N * 27) (mkK kL k) ++ rest, ty, kd⟩ := by
  have hlt := (List.getElem?_eq_some_iff.1 h).1
  have hgs : ∀ b : Blk, (H.set i b)[i]? = some b := fun b => List.getElem?_set_self hlt
  refine cal_fn 67 mixed Try.func21 Try.ntmps21 Try.results21 rfl rfl rfl fun hw cx hx hq => ?_
  simp only [go_sem]
  refine WK_for (fun n : Nat => ⟨[.s i 0 N c, .v (.int .i64 (k + (n * 27 : Nat))), .any, .any, .any, .v (.int .i64 n)] ++ junk 63, H.set i ⟨rowK kL (N * 27) (pfx (mkK kL k) F (n * 27)) ++ rest, ty, kd⟩⟩) (fun n => n ≤ N) (fun n => N - n) 0 ?_ ?_ fun n hn => ?_
  · simp only [Nat.zero_mul, pfx_zero, set_get h]
    exact Weak.slots (by simp [go_sem])
  · simp
  rcases Int.lt_or_le (n : Int) N with hc | hc
  · have hin : n * 27 + 27 ≤ N * 27 := by
      have : (n + 1) * 27 ≤ N * 27 := Nat.mul_le_mul_right _ (by omega)
      omega
    simp only [go_sem, hc]
    try repeat (refine And.intro (by omega) ?_)
    refine WK_for (fun m : Nat => ⟨[.s i 0 N c, .v (.int .i64 (k + (n * 27 + m : Nat))), .any, .any, .any, .v (.int .i64 n), .v (.int .i64 m)] ++ junk 62, H.set i ⟨rowK kL (N * 27) (pfx (mkK kL k) F (n * 27 + m)) ++ rest, ty, kd⟩⟩) (fun m => m ≤ 12) (fun m => 12 - m) 0 (Weak.slots ?_) ?_ fun m hm => ?_
    · simp [go_sem]
    · simp
    rcases Int.lt_or_le (m : Int) 12 with hc2 | hc2
    · have hkk : kL (n * 27 + m) = .u16 := if_pos (by omega)
      have hw := wr_pfxK_app kL (mkK kL k) F rest (show n * 27 + m < N * 27 by omega) rfl rfl
      simp only [mkK, hkk] at hw
      repeat (first | simp only [go_sem, hc2, hgs, hk, List.set_set] | refine And.intro (by omega) ?_)
      simp only [mkK, hw]
      refine EK_again (m + 1) ?_ (by omega) (by omega)
      exact Weak.slots (by simp [go_sem, mkK]; omega)
    have : m = 12 := by omega
    subst this
    simp only [go_sem, Int.not_lt.2 hc2]
    try repeat (refine And.intro (by omega) ?_)
    refine WK_for (fun m : Nat => ⟨[.s i 0 N c, .v (.int .i64 (k + (n * 27 + (12 + m) : Nat))), .any, .any, .any, .v (.int .i64 n), .any, .v (.int .i64 m)] ++ junk 61, H.set i ⟨rowK kL (N * 27) (pfx (mkK kL k) F (n * 27 + (12 + m))) ++ rest, ty, kd⟩⟩) (fun m => m ≤ 12) (fun m => 12 - m) 0 (Weak.slots ?_) ?_ fun m hm => ?_
    · simp [go_sem]
    · simp
    rcases Int.lt_or_le (m : Int) 12 with hc2 | hc2
    · have hkk : kL (n * 27 + (12 + m)) = .u16 := if_pos (by omega)
      have hw := wr_pfxK_app kL (mkK kL k) F rest (show n * 27 + (12 + m) < N * 27 by omega) rfl rfl
      simp only [mkK, hkk] at hw
      repeat (first | simp only [go_sem, hc2, hgs, hk, List.set_set] | refine And.intro (by omega) ?_)
      simp only [mkK, hw]
      refine EK_again (m + 1) ?_ (by omega) (by omega)
      exact Weak.slots (by simp [go_sem, mkK]; omega)
    have : m = 12 := by omega
    subst this
    have k1 : kL (n * 27 + 24) = .i8 := if_neg (by omega)
    have k2 : kL (n * 27 + 25) = .i8 := if_neg (by omega)
    have k3 : kL (n * 27 + 26) = .i8 := if_neg (by omega)
    have w1 := wr_pfxK_app kL (mkK kL k) F rest (show n * 27 + 24 < N * 27 by omega) rfl rfl
    have w2 := wr_pfxK_app kL (mkK kL k) F rest (show n * 27 + 24 + 1 < N * 27 by omega) rfl rfl
    have w3 := wr_pfxK_app kL (mkK kL k) F rest (show n * 27 + 24 + 1 + 1 < N * 27 by omega) rfl rfl
    have p1 : k + ((n * 27 + 12 + 12 : Nat) : Int) = k + ((n * 27 + 24 : Nat) : Int) := by omega
    have p2 : k + ((n * 27 + 24 : Nat) : Int) + 1 = k + ((n * 27 + 24 + 1 : Nat) : Int) := by omega
    have p3 : k + ((n * 27 + 24 + 1 : Nat) : Int) + 1 = k + ((n * 27 + 24 + 1 + 1 : Nat) : Int) := by omega
    simp only [mkK, k1, k2, k3, Nat.add_assoc, Nat.reduceAdd] at w1 w2 w3 p1 p2 p3
    repeat (first | simp only [go_sem, Int.not_lt.2 hc2, hgs, hk, List.set_set, Nat.add_assoc, Nat.reduceAdd, mkK, p1, p2, p3, w1, w2, w3] | refine And.intro (by omega) ?_)

    refine EK_again (n + 1) ?_ (by omega) (by omega)
    simp only [Nat.succ_mul]
    exact Weak.slots (by simp [go_sem, mkK]; omega)
  · have : n = N := by omega
    subst this
    simp only [go_sem, Int.not_lt.2 hc, pfxK_all]
    refine ret_at hq _ (.inl rfl) (by simp) ?_
    simp [go_sem]
theorem heldScene {H : List Blk} {i N : Nat} {c : Cap} {b : Blk} {k : Int} (h : At H i 0 (rowK kL (N * 27) (mkK kL k)) b) (hl : N ≤ 1000000) (hk0 : 0 ≤ k ∧ k ≤ 1000000000) :
    Cal Try.prog 22 [.s i 0 N c, .v (.int .i64 k)] H fun u H' => u = .v (.int .i64 (k + (N * 27 : Nat))) ∧ H' = H := by
  refine cal_fn 77 mixed Try.func22 Try.ntmps22 Try.results22 rfl rfl rfl fun hw cx hx hq => ?_
  simp only [go_sem]
  refine WK_for (fun n : Nat => ⟨[.s i 0 N c, .v (.int .i64 (k + (n * 27 : Nat))), .any, .any, .v (.int .i64 0), .v (.int .i64 n)] ++ junk 73, H⟩) (fun n => n ≤ N) (fun n => N - n) 0 (Weak.slots ?_) ?_ fun n hn => ?_
  · simp [go_sem]
  · simp
  rcases Int.lt_or_le (n : Int) N with hc | hc
  · have hin : n * 27 + 27 ≤ N * 27 := by
      have : (n + 1) * 27 ≤ N * 27 := Nat.mul_le_mul_right _ (by omega)
      omega
    have hlen := h.len (by simp only [go_sem]; omega)
    simp only [go_sem] at hlen
    simp only [go_sem, hc]
    try repeat (refine And.intro (by omega) ?_)
    refine WK_for (fun m : Nat => ⟨[.s i 0 N c, .v (.int .i64 (k + (n * 27 + m : Nat))), .any, .any, .v (.int .i64 0), .v (.int .i64 n), .v (.int .i64 m)] ++ junk 72, H⟩) (fun m => m ≤ 12) (fun m => 12 - m) 0 (Weak.slots ?_) ?_ fun m hm => ?_
    · simp [go_sem]
    · simp
    rcases Int.lt_or_le (m : Int) 12 with hc2 | hc2
    · have hkk : kL (n * 27 + m) = .u16 := if_pos (by omega)
      have hcel := h.celK (show n * 27 + m < N * 27 by omega)
      simp only [go_sem, mkK, hkk] at hcel
      repeat (first | simp only [go_sem, hc2, h.get, h.live, hcel] | refine And.intro (by omega) ?_)
      refine EK_again (m + 1) ?_ (by omega) (by omega)
      exact Weak.slots (by simp [go_sem]; omega)
    have : m = 12 := by omega
    subst this
    simp only [go_sem, Int.not_lt.2 hc2]
    try repeat (refine And.intro (by omega) ?_)
    refine WK_for (fun m : Nat => ⟨[.s i 0 N c, .v (.int .i64 (k + (n * 27 + (12 + m) : Nat))), .any, .any, .v (.int .i64 0), .v (.int .i64 n), .any, .v (.int .i64 m)] ++ junk 71, H⟩) (fun m => m ≤ 12) (fun m => 12 - m) 0 (Weak.slots ?_) ?_ fun m hm => ?_
    · simp [go_sem]
    · simp
    rcases Int.lt_or_le (m : Int) 12 with hc2 | hc2
    · have hkk : kL (n * 27 + (12 + m)) = .u16 := if_pos (by omega)
      have hcel := h.celK (show n * 27 + (12 + m) < N * 27 by omega)
      simp only [go_sem, mkK, hkk] at hcel
      repeat (first | simp only [go_sem, hc2, h.get, h.live, hcel] | refine And.intro (by omega) ?_)
      refine EK_again (m + 1) ?_ (by omega) (by omega)
      exact Weak.slots (by simp [go_sem]; omega)
    have : m = 12 := by omega
    subst this
    have k1 : kL (n * 27 + 24) = .i8 := if_neg (by omega)
    have k2 : kL (n * 27 + 25) = .i8 := if_neg (by omega)
    have k3 : kL (n * 27 + 26) = .i8 := if_neg (by omega)
    have c1 := h.celK (show n * 27 + 24 < N * 27 by omega)
    have c2 := h.celK (show n * 27 + 25 < N * 27 by omega)
    have c3 := h.celK (show n * 27 + 26 < N * 27 by omega)
    have p2 : k + ((n * 27 + 24 : Nat) : Int) + 1 = k + ((n * 27 + 25 : Nat) : Int) := by omega
    have p3 : k + ((n * 27 + 25 : Nat) : Int) + 1 = k + ((n * 27 + 26 : Nat) : Int) := by omega
    simp only [go_sem, mkK, k1, k2, k3] at c1 c2 c3
    repeat (first | simp only [go_sem, Int.not_lt.2 hc2, h.get, h.live, Nat.reduceAdd, p2, p3, c1, c2, c3] | refine And.intro (by omega) ?_)
    refine EK_again (n + 1) ?_ (by omega) (by omega)
    simp only [Nat.succ_mul]
    exact Weak.slots (by simp [go_sem]; omega)
  · have : n = N := by omega
    subst this
    simp only [go_sem, Int.not_lt.2 hc]
    refine ret_same hq _ (.inl rfl) ?_
    simp [go_sem]
theorem markSceneL {H : List Blk} {i n : Nat} {c : Cap} {l r : List (Nat → Int)} {ty : TypeId} {kd : BK} {k : Int} (h : H[i]? = some ⟨(l ++ r).flatMap encL, ty, kd⟩) (hk : kd.mut = true) (hn : n = l.length) (hl : l.length ≤ 1000000) (hk0 : 0 ≤ k ∧ k ≤ 1000000000) :
    Cal Try.prog 21 [.s i 0 n c, .v (.int .i64 k)] H fun u H' => u = .v (.int .i64 (k + (l.length * 27 : Nat))) ∧ H' = H.set i ⟨rowK kL (l.length * 27) (mkK kL k) ++ r.flatMap encL, ty, kd⟩ := by
  subst hn
  rw [List.flatMap_append, layers_rowK l] at h
  exact markScene h hk hl hk0
theorem markSceneNil {H : List Blk} {k : Int} : Cal Try.prog 21 [.v (.slice none 0 0), .v (.int .i64 k)] H fun u H' => u = .v (.int .i64 k) ∧ H' = H := by
  refine cal_fn 67 mixed Try.func21 Try.ntmps21 Try.results21 rfl rfl rfl fun hw cx hx hq => ?_
  simp only [go_sem]
  refine WK_for (fun n : Nat => ⟨[.v (.slice none 0 0), .v (.int .i64 k), .any, .any, .any, .v (.int .i64 0)] ++ junk 63, H⟩) (fun n => n = 0) (fun n => n) 0 (Weak.slots (by simp [go_sem])) rfl fun n hn => ?_
  simp only [go_sem, Int.reduceLT, Int.ofNat_eq_natCast, Int.natCast_zero]
  refine ret_same hq _ (.inl rfl) ?_
  simp [go_sem]
theorem heldSceneNil {H : List Blk} {k : Int} : Cal Try.prog 22 [.v (.slice none 0 0), .v (.int .i64 k)] H fun u H' => u = .v (.int .i64 k) ∧ H' = H := by
  refine cal_fn 77 mixed Try.func22 Try.ntmps22 Try.results22 rfl rfl rfl fun hw cx hx hq => ?_
  simp only [go_sem]
  refine WK_for (fun n : Nat => ⟨[.v (.slice none 0 0), .v (.int .i64 k), .any, .any, .v (.int .i64 0), .v (.int .i64 0)] ++ junk 73, H⟩) (fun n => n = 0) (fun n => n) 0 (Weak.slots (by simp [go_sem])) rfl fun n hn => ?_
  simp only [go_sem, Int.reduceLT, Int.ofNat_eq_natCast, Int.natCast_zero]
  refine ret_same hq _ (.inl rfl) ?_
  simp [go_sem]
end Go.Proofs.Ytheeehjgmifclaa

