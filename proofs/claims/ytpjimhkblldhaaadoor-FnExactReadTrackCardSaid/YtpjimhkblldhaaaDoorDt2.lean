/- Contracts of functions of the translated program, by the walk. -/
import Derived.Test.YtpjimhkblldhaaaDoorDt1
set_option linter.unusedVariables false
set_option linter.unusedSimpArgs false
set_option maxRecDepth 8000
set_option maxHeartbeats 4000000
namespace Go.Proofs.YtpjimhkblldhaaaDoor
open Go Go.Sx
def u8L (l : List Int) : List UInt8 := l.map fun n => UInt8.ofNat n.toNat
theorem bs32 : (ByteArray.mk #[32]) = bstr [32] := rfl
theorem bs0 : (ByteArray.mk #[]) = bstr [] := rfl
end Go.Proofs.YtpjimhkblldhaaaDoor

