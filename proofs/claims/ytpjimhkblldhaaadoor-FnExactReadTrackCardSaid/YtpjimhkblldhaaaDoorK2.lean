/- Contracts of functions of the translated program, by the walk. -/
import Derived.Test.YtpjimhkblldhaaaDoorK1
set_option linter.unusedVariables false
set_option linter.unusedSimpArgs false
set_option maxRecDepth 8000
set_option maxHeartbeats 4000000
namespace Go.Proofs.YtpjimhkblldhaaaDoor
open Go Go.Sx
theorem markTrack {H : List Blk} {i N : Nat} {c : Cap} {F : Nat → Int} {rest : List V} {ty : TypeId} {kd : BK} {k : Int} (h : H[i]? = some ⟨rowK kK (N * 3) F ++ rest, ty, kd⟩) (hk : kd.mut = true) (hl : N ≤ 1000000) (hk0 : 0 ≤ k ∧ k ≤ 1000000000) :
    Cal Tryd.prog 24 [.s i 0 N c, .v (.int .i64 k)] H fun u H' => u = .v (.int .i64 (k + (N * 3 : Nat))) ∧ H' = H.set i ⟨rowK kK (N * 3) (mkK kK k) ++ rest, ty, kd⟩ := by
  have hlt := (List.getElem?_eq_some_iff.1 h).1
  have hgs : ∀ b : Blk, (H.set i b)[i]? = some b := fun b => List.getElem?_set_self hlt
  refine cal_fn 35 mixed Tryd.func24 Tryd.ntmps24 Tryd.results24 rfl rfl rfl fun hw cx hx hq => ?_
  simp only [go_sem]
  refine WK_for (fun n : Nat => ⟨[.s i 0 N c, .v (.int .i64 (k + (n * 3 : Nat))), .any, .any, .any, .v (.int .i64 n)] ++ junk 31, H.set i ⟨rowK kK (N * 3) (pfx (mkK kK k) F (n * 3)) ++ rest, ty, kd⟩⟩) (fun n => n ≤ N) (fun n => N - n) 0 ?_ ?_ fun n hn => ?_
  · simp only [Nat.zero_mul, pfx_zero, set_get h]
    exact Weak.slots (by simp [go_sem])
  · simp
  rcases Int.lt_or_le (n : Int) N with hc | hc
  · have hin : n * 3 + 3 ≤ N * 3 := by
      have : (n + 1) * 3 ≤ N * 3 := Nat.mul_le_mul_right _ (by omega)
      omega
    have k1 : kK (n * 3) = .i16 := if_pos (by omega)
    have k2 : kK (n * 3 + 1) = .i8 := if_neg (by omega)
    have k3 : kK (n * 3 + 2) = .i8 := if_neg (by omega)
    have w1 := wr_pfxK_app kK (mkK kK k) F rest (show n * 3 < N * 3 by omega) rfl rfl
    have w2 := wr_pfxK_app kK (mkK kK k) F rest (show n * 3 + 1 < N * 3 by omega) rfl rfl
    have w3 := wr_pfxK_app kK (mkK kK k) F rest (show n * 3 + 1 + 1 < N * 3 by omega) rfl rfl
    have p2 : k + ((n * 3 : Nat) : Int) + 1 = k + ((n * 3 + 1 : Nat) : Int) := by omega
    have p3 : k + ((n * 3 + 1 : Nat) : Int) + 1 = k + ((n * 3 + 1 + 1 : Nat) : Int) := by omega
    simp only [mkK, k1, k2, k3, Nat.add_assoc, Nat.reduceAdd] at w1 w2 w3 p2 p3
    repeat (first | simp only [go_sem, hc, hgs, hk, List.set_set, Nat.add_assoc, Nat.reduceAdd, mkK, p2, p3, w1, w2, w3] | refine And.intro (by omega) ?_)
    refine EK_again (n + 1) ?_ (by omega) (by omega)
    simp only [Nat.succ_mul]
    exact Weak.slots (by simp [go_sem, mkK]; omega)
  · have : n = N := by omega
    subst this
    simp only [go_sem, Int.not_lt.2 hc, pfxK_all]
    refine ret_at hq _ (.inl rfl) (by simp) ?_
    simp [go_sem]
theorem heldTrack {H : List Blk} {i N : Nat} {c : Cap} {b : Blk} {k : Int} (h : At H i 0 (rowK kK (N * 3) (mkK kK k)) b) (hl : N ≤ 1000000) (hk0 : 0 ≤ k ∧ k ≤ 1000000000) :
    Cal Tryd.prog 25 [.s i 0 N c, .v (.int .i64 k)] H fun u H' => u = .v (.int .i64 (k + (N * 3 : Nat))) ∧ H' = H := by
  refine cal_fn 41 mixed Tryd.func25 Tryd.ntmps25 Tryd.results25 rfl rfl rfl fun hw cx hx hq => ?_
  simp only [go_sem]
  refine WK_for (fun n : Nat => ⟨[.s i 0 N c, .v (.int .i64 (k + (n * 3 : Nat))), .any, .any, .v (.int .i64 0), .v (.int .i64 n)] ++ junk 37, H⟩) (fun n => n ≤ N) (fun n => N - n) 0 (Weak.slots ?_) ?_ fun n hn => ?_
  · simp [go_sem]
  · simp
  rcases Int.lt_or_le (n : Int) N with hc | hc
  · have hin : n * 3 + 3 ≤ N * 3 := by
      have : (n + 1) * 3 ≤ N * 3 := Nat.mul_le_mul_right _ (by omega)
      omega
    have hlen := h.len (by simp only [go_sem]; omega)
    simp only [go_sem] at hlen
    have k1 : kK (n * 3) = .i16 := if_pos (by omega)
    have k2 : kK (n * 3 + 1) = .i8 := if_neg (by omega)
    have k3 : kK (n * 3 + 2) = .i8 := if_neg (by omega)
    have c1 := h.celK (show n * 3 < N * 3 by omega)
    have c2 := h.celK (show n * 3 + 1 < N * 3 by omega)
    have c3 := h.celK (show n * 3 + 2 < N * 3 by omega)
    have p2 : k + ((n * 3 : Nat) : Int) + 1 = k + ((n * 3 + 1 : Nat) : Int) := by omega
    have p3 : k + ((n * 3 + 1 : Nat) : Int) + 1 = k + ((n * 3 + 2 : Nat) : Int) := by omega
    simp only [go_sem, mkK, k1, k2, k3] at c1 c2 c3
    repeat (first | simp only [go_sem, hc, h.get, h.live, Nat.reduceAdd, p2, p3, c1, c2, c3] | refine And.intro (by omega) ?_)
    refine EK_again (n + 1) ?_ (by omega) (by omega)
    simp only [Nat.succ_mul]
    exact Weak.slots (by simp [go_sem]; omega)
  · have : n = N := by omega
    subst this
    simp only [go_sem, Int.not_lt.2 hc]
    refine ret_same hq _ (.inl rfl) ?_
    simp [go_sem]
theorem markTrackL {H : List Blk} {i n : Nat} {c : Cap} {l r : List (Nat → Int)} {ty : TypeId} {kd : BK} {k : Int} (h : H[i]? = some ⟨(l ++ r).flatMap encK, ty, kd⟩) (hk : kd.mut = true) (hn : n = l.length) (hl : l.length ≤ 1000000) (hk0 : 0 ≤ k ∧ k ≤ 1000000000) :
    Cal Tryd.prog 24 [.s i 0 n c, .v (.int .i64 k)] H fun u H' => u = .v (.int .i64 (k + (l.length * 3 : Nat))) ∧ H' = H.set i ⟨rowK kK (l.length * 3) (mkK kK k) ++ r.flatMap encK, ty, kd⟩ := by
  subst hn
  rw [List.flatMap_append, keys_rowK l] at h
  exact markTrack h hk hl hk0
theorem markTrackO {H : List Blk} {i n : Nat} {c : Cap} {l : List (Nat → Int)} {ty : TypeId} {kd : BK} {k : Int} (h : H[i]? = some ⟨l.flatMap encK, ty, kd⟩) (hk : kd.mut = true) (hn : n = l.length) (hl : l.length ≤ 1000000) (hk0 : 0 ≤ k ∧ k ≤ 1000000000) :
    Cal Tryd.prog 24 [.s i 0 n c, .v (.int .i64 k)] H fun u H' => u = .v (.int .i64 (k + (l.length * 3 : Nat))) ∧ H' = H.set i ⟨rowK kK (l.length * 3) (mkK kK k), ty, kd⟩ := by
  have := markTrackL (r := []) (H := H) (i := i) (n := n) (c := c) (l := l) (ty := ty) (kd := kd) (k := k) (by simpa using h) hk hn hl hk0
  simpa using this
theorem markTrackNil {H : List Blk} {k : Int} : Cal Tryd.prog 24 [.v (.slice none 0 0), .v (.int .i64 k)] H fun u H' => u = .v (.int .i64 k) ∧ H' = H := by
  refine cal_fn 35 mixed Tryd.func24 Tryd.ntmps24 Tryd.results24 rfl rfl rfl fun hw cx hx hq => ?_
  simp only [go_sem]
  refine WK_for (fun n : Nat => ⟨[.v (.slice none 0 0), .v (.int .i64 k), .any, .any, .any, .v (.int .i64 0)] ++ junk 31, H⟩) (fun n => n = 0) (fun n => n) 0 (Weak.slots (by simp [go_sem])) rfl fun n hn => ?_
  simp only [go_sem, Int.reduceLT, Int.ofNat_eq_natCast, Int.natCast_zero]
  refine ret_same hq _ (.inl rfl) ?_
  simp [go_sem]
theorem heldTrackNil {H : List Blk} {k : Int} : Cal Tryd.prog 25 [.v (.slice none 0 0), .v (.int .i64 k)] H fun u H' => u = .v (.int .i64 k) ∧ H' = H := by
  refine cal_fn 41 mixed Tryd.func25 Tryd.ntmps25 Tryd.results25 rfl rfl rfl fun hw cx hx hq => ?_
  simp only [go_sem]
  refine WK_for (fun n : Nat => ⟨[.v (.slice none 0 0), .v (.int .i64 k), .any, .any, .v (.int .i64 0), .v (.int .i64 0)] ++ junk 37, H⟩) (fun n => n = 0) (fun n => n) 0 (Weak.slots (by simp [go_sem])) rfl fun n hn => ?_
  simp only [go_sem, Int.reduceLT, Int.ofNat_eq_natCast, Int.natCast_zero]
  refine ret_same hq _ (.inl rfl) ?_
  simp [go_sem]
end Go.Proofs.YtpjimhkblldhaaaDoor

