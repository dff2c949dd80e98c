/- Contracts of functions of the translated program, by the walk. -/
import Derived.Test.YtheeehjgmifclaaCt1
set_option linter.unusedVariables false
set_option linter.unusedSimpArgs false
set_option maxRecDepth 8000
set_option maxHeartbeats 4000000
namespace Go.Proofs.Ytheeehjgmifclaa
open Go Go.Sx
/-- The byte at a place of a cel's text. -/
def cxB (f g : Nat → Int) (k : Nat) : Int := if k % 13 = 12 then 10 else if dot f (k % 13) (k / 13) = true then 35 else if dot g (k % 13) (k / 13) = true then 111 else 46
def cxL (f g : Nat → Int) (n : Nat) : List Int := (List.range n).map (cxB f g)
theorem cxL_len (f g : Nat → Int) (n : Nat) : (cxL f g n).length = n := by simp [cxL]
theorem cxL_8 (f g : Nat → Int) (n : Nat) : B8 (cxL f g n) := fun x hx => by
  obtain ⟨k, _, rfl⟩ := List.mem_map.1 hx
  unfold cxB; split <;> (try split) <;> (try split) <;> omega
theorem bs0 : (ByteArray.mk #[]) = bstr [] := rfl
end Go.Proofs.Ytheeehjgmifclaa

