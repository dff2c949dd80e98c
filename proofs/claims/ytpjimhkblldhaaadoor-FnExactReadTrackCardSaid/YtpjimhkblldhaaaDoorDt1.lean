/- Contracts of functions of the translated program, by the walk. -/
import Derived.Test.YtpjimhkblldhaaaDoorT1
import Derived.Shelf.Strconv.Itoa4
import Derived.Test.YtpjimhkblldhaaaDoorProg
import Derived.KernelRfl
import Derived.Shelf.Strings.OnBuilder
import Derived.Test.YtpjimhkblldhaaaDoorLD
import Derived.Test.YtpjimhkblldhaaaDoorLA
set_option linter.unusedVariables false
set_option linter.unusedSimpArgs false
set_option maxRecDepth 8000
set_option maxHeartbeats 4000000
namespace Go.Proofs.YtpjimhkblldhaaaDoor
open Go Go.Sx
open Go.Shelf Go.Proofs
def decT (i : Nat) : List Int := bytI ⟨(Lib.decDigits i).toArray⟩
theorem dec_small {i : Nat} (h : i < 10) : Lib.decDigits i = [UInt8.ofNat (48 + i)] := by rw [Lib.decDigits, dif_pos h]
theorem dec_two {i : Nat} (h : 10 ≤ i) (h2 : i < 100) : Lib.decDigits i = [UInt8.ofNat (48 + i / 10), UInt8.ofNat (48 + i % 10)] := by
  rw [Lib.decDigits, dif_neg (by omega), dec_small (by omega)]; rfl
theorem decT_small {i : Nat} (h : i < 10) : decT i = [((48 + i : Nat) : Int)] := by
  unfold decT bytI
  rw [dec_small h]
  simp
  omega
theorem decT_two {i : Nat} (h : 10 ≤ i) (h2 : i < 100) : decT i = [((48 + i / 10 : Nat) : Int), ((48 + i % 10 : Nat) : Int)] := by
  unfold decT bytI
  rw [dec_two h h2]
  simp
  omega
theorem decT_len {i : Nat} (h2 : i < 100) : (decT i).length ≤ 2 := by
  by_cases h : i < 10
  · rw [decT_small h]; simp
  · rw [decT_two (by omega) h2]; simp
theorem wrap_u8c {x : Int} (h : 0 ≤ x) (h2 : x < 256) : IntKind.u8.wrap x = x := by
  unfold IntKind.wrap
  simp only [IntKind.bits, IntKind.signed, Bool.false_and]
  simp; omega
end Go.Proofs.YtpjimhkblldhaaaDoor

