/- Contracts of functions of the translated program, by the walk. -/
import Derived.Test.YtjkkallcgplgmaaB2
set_option linter.unusedVariables false
set_option linter.unusedSimpArgs false
set_option maxRecDepth 8000
set_option maxHeartbeats 4000000
namespace Go.Proofs.Ytjkkallcgplgmaa
open Go Go.Sx
theorem hz12 : ∀ x : Nat → Int, (rowL .u16 12 x).length = 12 := fun _ => rowL_length ..
theorem markBookL {H : List Blk} {i n : Nat} {c : Cap} {l r : List (Nat → Int)} {ty : TypeId} {kd : BK} {k : Int} (h : H[i]? = some ⟨(l ++ r).flatMap (rowL .u16 12), ty, kd⟩) (hk : kd.mut = true) (hn : n = l.length) (hl : l.length ≤ 1000000) (hk0 : 0 ≤ k ∧ k ≤ 1000000000) :
    Cal Try.prog 26 [.s i 0 n c, .v (.int .i64 k)] H fun u H' => u = .v (.int .i64 (k + (l.length * 12 : Nat))) ∧ H' = H.set i ⟨rowL .u16 (l.length * 12) (mk16 k) ++ r.flatMap (rowL .u16 12), ty, kd⟩ := by
  subst hn
  rw [List.flatMap_append, flat_row .u16 12 (by omega) l] at h
  exact markBook h hk hl hk0
end Go.Proofs.Ytjkkallcgplgmaa

