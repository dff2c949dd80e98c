/- Contracts of functions of the translated program, by the walk. -/
import Derived.Test.YtpginknbmmdmoaaB1
import Derived.Test.YtpginknbmmdmoaaLD
set_option linter.unusedVariables false
set_option linter.unusedSimpArgs false
set_option maxRecDepth 8000
set_option maxHeartbeats 4000000
namespace Go.Proofs.Ytpginknbmmdmoaa
open Go Go.Sx
theorem markInt64SL {H : List Blk} {i n : Nat} {c : Cap} {l r : List Int} {ty : TypeId} {kd : BK} {k : Int} (h : H[i]? = some ⟨(l ++ r).flatMap i64C, ty, kd⟩) (hk : kd.mut = true) (hn : n = l.length) (hl : l.length ≤ 1000000) (hk0 : 0 ≤ k ∧ k ≤ 1000000000) :
    Cal Try.prog 46 [.s i 0 n c, .v (.int .i64 k)] H fun u H' => u = .v (.int .i64 (k + (l.length * 1 : Nat))) ∧ H' = H.set i ⟨rowL .i64 (l.length * 1) (mk64 k) ++ r.flatMap i64C, ty, kd⟩ := by
  subst hn
  rw [List.flatMap_append, flat_i64C l] at h
  exact markInt64S h hk hl hk0
end Go.Proofs.Ytpginknbmmdmoaa

