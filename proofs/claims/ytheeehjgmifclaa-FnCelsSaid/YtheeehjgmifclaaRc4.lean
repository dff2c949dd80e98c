/- Contracts of functions of the translated program, by the walk. -/
import Derived.Test.YtheeehjgmifclaaRc1
import Derived.Test.YtheeehjgmifclaaLD
set_option linter.unusedVariables false
set_option linter.unusedSimpArgs false
set_option maxRecDepth 8000
set_option maxHeartbeats 4000000
namespace Go.Proofs.Ytheeehjgmifclaa
open Go Go.Sx
noncomputable def rcF' (t : List Int) : Nat → Int := if goodT 12 t then rcF t else zeroF
noncomputable def rcG' (t : List Int) : Nat → Int := if goodT 12 t then rcG t else zeroF
noncomputable def rcC (t : List Int) : Int := if goodT 12 t then 0 else 5
theorem rc_bad {t : List Int} (h : ¬ goodT 12 t) : rcF' t = zeroF ∧ rcG' t = zeroF ∧ rcC t = 5 := ⟨if_neg h, if_neg h, if_neg h⟩
theorem rc_good {t : List Int} (h : goodT 12 t) : rcF' t = rcF t ∧ rcG' t = rcG t ∧ rcC t = 0 := ⟨if_pos h, if_pos h, if_pos h⟩
theorem row24 : rowL .u16 24 (fun _ => 0) = rowL .u16 12 (zeroF) ++ rowL .u16 12 (zeroF) := cel0 (fun _ => 0)
theorem whP_step (p : Nat → Bool) (n : Nat) : whP p (n + 1) = if p n = true then putF (whP p n) ((n % 12 : Nat) : Int) ((n / 12 : Nat) : Int) else whP p n := rfl
end Go.Proofs.Ytheeehjgmifclaa

