/- Contracts of functions of the translated program, by the walk. -/
import Derived.Test.YtjkkallcgplgmaaC1
set_option linter.unusedVariables false
set_option linter.unusedSimpArgs false
set_option maxRecDepth 8000
set_option maxHeartbeats 4000000
namespace Go.Proofs.Ytjkkallcgplgmaa
open Go Go.Sx
def pg (l : List (Nat → Int)) (i : Nat) : Nat → Int := l[i]?.getD zeroF
theorem pg_at {l : List (Nat → Int)} {i : Nat} (h : i < l.length) : pg l i = l[i] := by unfold pg; rw [List.getElem?_eq_getElem h]; rfl
theorem okB_12 {l : List (Nat → Int)} (h : okB l = true) (hR : ∀ f ∈ l, R16 f) : ∀ f ∈ l, F12 f := fun f hf => okF_f12 (List.all_eq_true.1 (okB_iff.1 h).2 f hf) (hR f hf)
theorem pg_12 {l : List (Nat → Int)} (h : ∀ f ∈ l, F12 f) (i : Nat) : F12 (pg l i) := by
  unfold pg
  cases e : l[i]? with
  | none => intro j _; simp [zeroF]
  | some f => exact h f (List.mem_of_getElem? e)
end Go.Proofs.Ytjkkallcgplgmaa

