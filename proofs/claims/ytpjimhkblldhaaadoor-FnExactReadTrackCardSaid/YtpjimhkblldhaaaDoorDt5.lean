/- Contracts of functions of the translated program, by the walk. -/
import Derived.Test.YtpjimhkblldhaaaDoorDt1
import Derived.Test.YtpjimhkblldhaaaDoorDl3
set_option linter.unusedVariables false
set_option linter.unusedSimpArgs false
set_option maxRecDepth 8000
set_option maxHeartbeats 4000000
namespace Go.Proofs.YtpjimhkblldhaaaDoor
open Go Go.Sx
open Go.Shelf Go.Proofs
/-- The table of powers of ten, as the package variable holds it. -/
def powC : List V := Lib.pow10Tab.map fun z => .v (.int .u64 z)
/-- The first block is the table of powers. -/
structure Pow (H : List Blk) : Prop where
  pow : H[0]? = some ⟨powC, 0, .pin 1⟩
theorem Pow.app {H L : List Blk} (h : Pow H) : Pow (H ++ L) := ⟨get_app h.pow⟩
theorem powC_conc (σ : Nat → Go.Sx.Loc) : concs σ powC = Lib.pow10Tab.map fun z => Value.int .u64 z := by
  unfold powC; rw [concs_eq, List.map_map]; rfl
theorem pow_is {σ : Nat → Go.Sx.Loc} {H : List Blk} {w : World} (hw : HRel σ H w) (hp : Pow H) : Lib.TabIs Tryd.prog w "internal/strconv.uint64pow10" .u64 Lib.pow10Tab := by
  unfold Lib.TabIs
  rw [hw.pin_var (P := Tryd.prog) hp.pow (by kernel_rfl), powC_conc]
/-- A number's text. -/
def decI (i : Int) : List Int := bytI ⟨(Lib.itoa i).toArray⟩
theorem bstr_decI (i : Int) : bstr (decI i) = ⟨(Lib.itoa i).toArray⟩ := bstr_bytI _
theorem decI_8 (i : Int) : B8 (decI i) := bytI_8 _
theorem decI_nat (k : Nat) : decI (k : Int) = decT k := by unfold decI decT; rw [Lib.itoa_nonneg]
theorem decI_neg {k : Nat} (h : 1 ≤ k) : decI (-(k : Int)) = 45 :: decT k := by
  unfold decI decT
  rw [Lib.itoa_neg k h]
  simp [bytI]
theorem decT_big {i : Nat} (h : 10 ≤ i) : decT i = decT (i / 10) ++ [((48 + i % 10 : Nat) : Int)] := by
  unfold decT bytI
  rw [Lib.decDigits, dif_neg (by omega)]
  simp
  omega
theorem decT_len3 {i : Nat} (h : i < 1000) : (decT i).length ≤ 3 := by
  by_cases h2 : i < 100
  · have := decT_len h2; omega
  · have := decT_len (i := i / 10) (by omega)
    rw [decT_big (by omega)]
    simp; omega
end Go.Proofs.YtpjimhkblldhaaaDoor

