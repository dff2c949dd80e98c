/- Contracts of functions of the translated program, by the walk. -/
import Derived.Test.YtpjimhkblldhaaaDoorB1
import Derived.Test.YtpjimhkblldhaaaDoorLD
set_option linter.unusedVariables false
set_option linter.unusedSimpArgs false
set_option maxRecDepth 8000
set_option maxHeartbeats 4000000
namespace Go.Proofs.YtpjimhkblldhaaaDoor
open Go Go.Sx
theorem markInt64SL {H : List Blk} {i n : Nat} {c : Cap} {l r : List Int} {ty : TypeId} {kd : BK} {k : Int} (h : H[i]? = some ⟨(l ++ r).flatMap i64C, ty, kd⟩) (hk : kd.mut = true) (hn : n = l.length) (hl : l.length ≤ 1000000) (hk0 : 0 ≤ k ∧ k ≤ 1000000000) :
    Cal Tryd.prog 19 [.s i 0 n c, .v (.int .i64 k)] H fun u H' => u = .v (.int .i64 (k + (l.length * 1 : Nat))) ∧ H' = H.set i ⟨rowL .i64 (l.length * 1) (mk64 k) ++ r.flatMap i64C, ty, kd⟩ := by
  subst hn
  rw [List.flatMap_append, flat_i64C l] at h
  exact markInt64S h hk hl hk0
theorem markInt64SO {H : List Blk} {i n : Nat} {c : Cap} {l : List Int} {ty : TypeId} {kd : BK} {k : Int} (h : H[i]? = some ⟨l.flatMap i64C, ty, kd⟩) (hk : kd.mut = true) (hn : n = l.length) (hl : l.length ≤ 1000000) (hk0 : 0 ≤ k ∧ k ≤ 1000000000) :
    Cal Tryd.prog 19 [.s i 0 n c, .v (.int .i64 k)] H fun u H' => u = .v (.int .i64 (k + (l.length * 1 : Nat))) ∧ H' = H.set i ⟨rowL .i64 (l.length * 1) (mk64 k), ty, kd⟩ := by
  have := markInt64SL (r := []) (H := H) (i := i) (n := n) (c := c) (l := l) (ty := ty) (kd := kd) (k := k) (by simpa using h) hk hn hl hk0
  simpa using this
theorem heldInt64S1 {H : List Blk} {i N : Nat} {c : Cap} {b : Blk} {k : Int} (h : At H i 0 (rowL .i64 N (mk64 k)) b) (hl : N ≤ 1000000) (hk0 : 0 ≤ k ∧ k ≤ 1000000000) :
    Cal Tryd.prog 20 [.s i 0 N c, .v (.int .i64 k)] H fun u H' => u = .v (.int .i64 (k + N)) ∧ H' = H := by
  have := heldInt64S (H := H) (i := i) (N := N) (c := c) (b := b) (k := k) (by rw [Nat.mul_one]; exact h) hl hk0
  simpa only [Nat.mul_one] using this
end Go.Proofs.YtpjimhkblldhaaaDoor

