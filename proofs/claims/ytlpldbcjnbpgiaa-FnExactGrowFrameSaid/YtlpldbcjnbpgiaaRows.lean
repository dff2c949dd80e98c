/-
  No cell of these rows narrows 'for every input' (looked for: loops, veiled, ifaces, maps, wideKeys, modest, calm, conditions, laid).
  DERIVED. THE GIVEN ROWS OF THIS SEAT. 7 by the template 'for every input the law returns true; each argument reads behind the call as it read before'; 0 by the template 'total and deterministic' (their statements: YtlpldbcjnbpgiaaTotals.lean).
  GIVEN WITH THE SEED: the statements are not yours to turn. If you find one false, say at which input.
  Laid BY PROGRAM, IN A SANDBOX (cutbox-rows.mjs): the forced cells as the released guide's own fill.sh prints them over the translation 5407027191fdd1b0… (all of the seat's roots in one cut). By AI agents, Wed Nov 11 2026. No macro, syntax, notation, axiom, sorry.
-/
import Derived.Test.YtlpldbcjnbpgiaaChecked
import GoSem.Claim
import GoSem.ClaimJoined
import GoSem.ClaimMapViews
import Derived.JoinedTies
import Derived.KernelRfl
namespace Go.Proofs.Ytlpldbcjnbpgiaa
/- THE CELL 'sum', in the pinned program and in every row, IS THE sha256 OF THE DUMP (.gsa) THAT YtlpldbcjnbpgiaaProg.lean LOADS. Nothing in Lean hashes anything: it is a label: what it is worth is what the hold of that sum in a sandbox is worth. -/
noncomputable def Try.pinned : Pinned := { name := "ytlpldbcjnbpgiaa", sum := "5407027191fdd1b0dcdf4654b99be27891afe9163f45ef50c5d0a3b99c8d5dae", checked := Try.checked }
namespace Rows
def none {H : Type} : Left H := { results := [], args := [] }

/-- 'laws.FnExactValidCel': WHATEVER THE INPUT: true; the input reads as it did. -/
def fnExactValidCelSpec : ChangeSpec := { name := "fnExactValidCel", fn := fun _ => fun
  | [d] => { results := [.lit (.bool true)], args := [d] }
  | _ => none }
def fnExactValidCelRow : OpenClaim := { program := "ytlpldbcjnbpgiaa", sum := "5407027191fdd1b0dcdf4654b99be27891afe9163f45ef50c5d0a3b99c8d5dae", func := "loop.example/g01340/laws.FnExactValidCel", spec := "fnExactValidCel", unfollowed := true, recurses := true, apart := false }
def FnExactValidCelSaid : Prop := fnExactValidCelRow.holds Try.pinned (OpenSpec.ofChange fnExactValidCelSpec)

/-- ITS FALSE NEIGHBOUR: 'it returns false'. Refute it at one input. -/
def fnExactValidCelWrong : ChangeSpec := { name := "fnExactValidCel", fn := fun _ => fun
  | [d] => { results := [.lit (.bool false)], args := [d] }
  | _ => none }
def FnExactValidCelWrongFalsely : Prop := fnExactValidCelRow.holds Try.pinned (OpenSpec.ofChange fnExactValidCelWrong)

/-- 'laws.FnExactMajorityOf': WHATEVER THE INPUT: true; the input reads as it did. -/
def fnExactMajorityOfSpec : ChangeSpec := { name := "fnExactMajorityOf", fn := fun _ => fun
  | [d1, d2, d3] => { results := [.lit (.bool true)], args := [d1, d2, d3] }
  | _ => none }
def fnExactMajorityOfRow : OpenClaim := { program := "ytlpldbcjnbpgiaa", sum := "5407027191fdd1b0dcdf4654b99be27891afe9163f45ef50c5d0a3b99c8d5dae", func := "loop.example/g01340/laws.FnExactMajorityOf", spec := "fnExactMajorityOf", unfollowed := true, recurses := true, apart := false }
def FnExactMajorityOfSaid : Prop := fnExactMajorityOfRow.holds Try.pinned (OpenSpec.ofChange fnExactMajorityOfSpec)

/-- ITS FALSE NEIGHBOUR: 'it returns false'. Refute it at one input. -/
def fnExactMajorityOfWrong : ChangeSpec := { name := "fnExactMajorityOf", fn := fun _ => fun
  | [d1, d2, d3] => { results := [.lit (.bool false)], args := [d1, d2, d3] }
  | _ => none }
def FnExactMajorityOfWrongFalsely : Prop := fnExactMajorityOfRow.holds Try.pinned (OpenSpec.ofChange fnExactMajorityOfWrong)

/-- 'laws.FnExactShownBy': WHATEVER THE INPUT: true; the input reads as it did. -/
def fnExactShownBySpec : ChangeSpec := { name := "fnExactShownBy", fn := fun _ => fun
  | [d] => { results := [.lit (.bool true)], args := [d] }
  | _ => none }
def fnExactShownByRow : OpenClaim := { program := "ytlpldbcjnbpgiaa", sum := "5407027191fdd1b0dcdf4654b99be27891afe9163f45ef50c5d0a3b99c8d5dae", func := "loop.example/g01340/laws.FnExactShownBy", spec := "fnExactShownBy", unfollowed := true, recurses := true, apart := false }
def FnExactShownBySaid : Prop := fnExactShownByRow.holds Try.pinned (OpenSpec.ofChange fnExactShownBySpec)

/-- ITS FALSE NEIGHBOUR: 'it returns false'. Refute it at one input. -/
def fnExactShownByWrong : ChangeSpec := { name := "fnExactShownBy", fn := fun _ => fun
  | [d] => { results := [.lit (.bool false)], args := [d] }
  | _ => none }
def FnExactShownByWrongFalsely : Prop := fnExactShownByRow.holds Try.pinned (OpenSpec.ofChange fnExactShownByWrong)

/-- 'laws.FnExactCelFrom': WHATEVER THE INPUT: true; the input reads as it did. -/
def fnExactCelFromSpec : ChangeSpec := { name := "fnExactCelFrom", fn := fun _ => fun
  | [d1, d2] => { results := [.lit (.bool true)], args := [d1, d2] }
  | _ => none }
def fnExactCelFromRow : OpenClaim := { program := "ytlpldbcjnbpgiaa", sum := "5407027191fdd1b0dcdf4654b99be27891afe9163f45ef50c5d0a3b99c8d5dae", func := "loop.example/g01340/laws.FnExactCelFrom", spec := "fnExactCelFrom", unfollowed := true, recurses := true, apart := false }
def FnExactCelFromSaid : Prop := fnExactCelFromRow.holds Try.pinned (OpenSpec.ofChange fnExactCelFromSpec)

/-- ITS FALSE NEIGHBOUR: 'it returns false'. Refute it at one input. -/
def fnExactCelFromWrong : ChangeSpec := { name := "fnExactCelFrom", fn := fun _ => fun
  | [d1, d2] => { results := [.lit (.bool false)], args := [d1, d2] }
  | _ => none }
def FnExactCelFromWrongFalsely : Prop := fnExactCelFromRow.holds Try.pinned (OpenSpec.ofChange fnExactCelFromWrong)

/-- 'laws.FnExactLayOver': WHATEVER THE INPUT: true; the input reads as it did. -/
def fnExactLayOverSpec : ChangeSpec := { name := "fnExactLayOver", fn := fun _ => fun
  | [d1, d2] => { results := [.lit (.bool true)], args := [d1, d2] }
  | _ => none }
def fnExactLayOverRow : OpenClaim := { program := "ytlpldbcjnbpgiaa", sum := "5407027191fdd1b0dcdf4654b99be27891afe9163f45ef50c5d0a3b99c8d5dae", func := "loop.example/g01340/laws.FnExactLayOver", spec := "fnExactLayOver", unfollowed := true, recurses := true, apart := false }
def FnExactLayOverSaid : Prop := fnExactLayOverRow.holds Try.pinned (OpenSpec.ofChange fnExactLayOverSpec)

/-- ITS FALSE NEIGHBOUR: 'it returns false'. Refute it at one input. -/
def fnExactLayOverWrong : ChangeSpec := { name := "fnExactLayOver", fn := fun _ => fun
  | [d1, d2] => { results := [.lit (.bool false)], args := [d1, d2] }
  | _ => none }
def FnExactLayOverWrongFalsely : Prop := fnExactLayOverRow.holds Try.pinned (OpenSpec.ofChange fnExactLayOverWrong)

/-- 'laws.FnExactGrowFrame': WHATEVER THE INPUT: true; the input reads as it did. -/
def fnExactGrowFrameSpec : ChangeSpec := { name := "fnExactGrowFrame", fn := fun _ => fun
  | [d] => { results := [.lit (.bool true)], args := [d] }
  | _ => none }
def fnExactGrowFrameRow : OpenClaim := { program := "ytlpldbcjnbpgiaa", sum := "5407027191fdd1b0dcdf4654b99be27891afe9163f45ef50c5d0a3b99c8d5dae", func := "loop.example/g01340/laws.FnExactGrowFrame", spec := "fnExactGrowFrame", unfollowed := true, recurses := true, apart := false }
def FnExactGrowFrameSaid : Prop := fnExactGrowFrameRow.holds Try.pinned (OpenSpec.ofChange fnExactGrowFrameSpec)

/-- ITS FALSE NEIGHBOUR: 'it returns false'. Refute it at one input. -/
def fnExactGrowFrameWrong : ChangeSpec := { name := "fnExactGrowFrame", fn := fun _ => fun
  | [d] => { results := [.lit (.bool false)], args := [d] }
  | _ => none }
def FnExactGrowFrameWrongFalsely : Prop := fnExactGrowFrameRow.holds Try.pinned (OpenSpec.ofChange fnExactGrowFrameWrong)

/-- 'laws.FnExactMoveFrame': WHATEVER THE INPUT: true; the input reads as it did. -/
def fnExactMoveFrameSpec : ChangeSpec := { name := "fnExactMoveFrame", fn := fun _ => fun
  | [d1, d2, d3] => { results := [.lit (.bool true)], args := [d1, d2, d3] }
  | _ => none }
def fnExactMoveFrameRow : OpenClaim := { program := "ytlpldbcjnbpgiaa", sum := "5407027191fdd1b0dcdf4654b99be27891afe9163f45ef50c5d0a3b99c8d5dae", func := "loop.example/g01340/laws.FnExactMoveFrame", spec := "fnExactMoveFrame", unfollowed := true, recurses := true, apart := false }
def FnExactMoveFrameSaid : Prop := fnExactMoveFrameRow.holds Try.pinned (OpenSpec.ofChange fnExactMoveFrameSpec)

/-- ITS FALSE NEIGHBOUR: 'it returns false'. Refute it at one input. -/
def fnExactMoveFrameWrong : ChangeSpec := { name := "fnExactMoveFrame", fn := fun _ => fun
  | [d1, d2, d3] => { results := [.lit (.bool false)], args := [d1, d2, d3] }
  | _ => none }
def FnExactMoveFrameWrongFalsely : Prop := fnExactMoveFrameRow.holds Try.pinned (OpenSpec.ofChange fnExactMoveFrameWrong)

/- THE SECOND FORM. 'bulk': how many values and letters a reading holds, each counted each time it is reached (what is shared counts as often as it is met; a slice's spare places count too). A statement '..UptoSaid' is the law's where the arguments, and the package variables that the reading takes, are together of bulk at most 1048576: NARROWER than '..Said'. Prove '..Said' where nothing that the law and all that it calls make is longer than what came in: it says more and counts as full. Else prove '..UptoSaid'. A law counts once. -/
mutual
def uptoBulk {H : Type} : DataW H → Nat
  | .lit (.string bytes) => bytes.length + 1
  | .lit _ => 1
  | .nil => 1
  | .ptr d => uptoBulk d + 1
  | .slice elems spare => uptoBulkAll elems + uptoBulkAll spare + 1
  | .agg parts => uptoBulkAll parts + 1
  | .iface _ d => uptoBulk d + 1
  | .map entries => uptoBulkEntries entries + 1
  | .held _ => 1
def uptoBulkAll {H : Type} : List (DataW H) → Nat
  | [] => 0
  | d :: r => uptoBulk d + uptoBulkAll r
def uptoBulkEntries {H : Type} : List (Lit × DataW H) → Nat
  | [] => 0
  | x :: r => uptoBulkEntry x + uptoBulkEntries r
def uptoBulkEntry {H : Type} : Lit × DataW H → Nat
  | (.string bytes, d) => bytes.length + uptoBulk d + 1
  | (_, d) => uptoBulk d + 1
 end
def uptoSmall : (H : Type) → List (DataW H) → Bool := fun _ ds => decide (uptoBulkAll ds ≤ 1048576)
def OpenSpec.upto (s : _root_.Go.ChangeSpec) : _root_.Go.OpenSpec := { _root_.Go.OpenSpec.ofChange s with cond := some uptoSmall }

/-- 'laws.FnExactValidCel', WHERE WHAT IT READS IS OF BULK AT MOST 1048576: true; the input reads as it did. -/
def fnExactValidCelUptoRow : OpenClaim := { program := "ytlpldbcjnbpgiaa", sum := "5407027191fdd1b0dcdf4654b99be27891afe9163f45ef50c5d0a3b99c8d5dae", func := "loop.example/g01340/laws.FnExactValidCel", spec := "fnExactValidCel", unfollowed := true, recurses := true, apart := false, narrowed := true }
def FnExactValidCelUptoSaid : Prop := fnExactValidCelUptoRow.holds Try.pinned (OpenSpec.upto fnExactValidCelSpec)

/-- 'laws.FnExactMajorityOf', WHERE WHAT IT READS IS OF BULK AT MOST 1048576: true; the input reads as it did. -/
def fnExactMajorityOfUptoRow : OpenClaim := { program := "ytlpldbcjnbpgiaa", sum := "5407027191fdd1b0dcdf4654b99be27891afe9163f45ef50c5d0a3b99c8d5dae", func := "loop.example/g01340/laws.FnExactMajorityOf", spec := "fnExactMajorityOf", unfollowed := true, recurses := true, apart := false, narrowed := true }
def FnExactMajorityOfUptoSaid : Prop := fnExactMajorityOfUptoRow.holds Try.pinned (OpenSpec.upto fnExactMajorityOfSpec)

/-- 'laws.FnExactShownBy', WHERE WHAT IT READS IS OF BULK AT MOST 1048576: true; the input reads as it did. -/
def fnExactShownByUptoRow : OpenClaim := { program := "ytlpldbcjnbpgiaa", sum := "5407027191fdd1b0dcdf4654b99be27891afe9163f45ef50c5d0a3b99c8d5dae", func := "loop.example/g01340/laws.FnExactShownBy", spec := "fnExactShownBy", unfollowed := true, recurses := true, apart := false, narrowed := true }
def FnExactShownByUptoSaid : Prop := fnExactShownByUptoRow.holds Try.pinned (OpenSpec.upto fnExactShownBySpec)

/-- 'laws.FnExactCelFrom', WHERE WHAT IT READS IS OF BULK AT MOST 1048576: true; the input reads as it did. -/
def fnExactCelFromUptoRow : OpenClaim := { program := "ytlpldbcjnbpgiaa", sum := "5407027191fdd1b0dcdf4654b99be27891afe9163f45ef50c5d0a3b99c8d5dae", func := "loop.example/g01340/laws.FnExactCelFrom", spec := "fnExactCelFrom", unfollowed := true, recurses := true, apart := false, narrowed := true }
def FnExactCelFromUptoSaid : Prop := fnExactCelFromUptoRow.holds Try.pinned (OpenSpec.upto fnExactCelFromSpec)

/-- 'laws.FnExactLayOver', WHERE WHAT IT READS IS OF BULK AT MOST 1048576: true; the input reads as it did. -/
def fnExactLayOverUptoRow : OpenClaim := { program := "ytlpldbcjnbpgiaa", sum := "5407027191fdd1b0dcdf4654b99be27891afe9163f45ef50c5d0a3b99c8d5dae", func := "loop.example/g01340/laws.FnExactLayOver", spec := "fnExactLayOver", unfollowed := true, recurses := true, apart := false, narrowed := true }
def FnExactLayOverUptoSaid : Prop := fnExactLayOverUptoRow.holds Try.pinned (OpenSpec.upto fnExactLayOverSpec)

/-- 'laws.FnExactGrowFrame', WHERE WHAT IT READS IS OF BULK AT MOST 1048576: true; the input reads as it did. -/
def fnExactGrowFrameUptoRow : OpenClaim := { program := "ytlpldbcjnbpgiaa", sum := "5407027191fdd1b0dcdf4654b99be27891afe9163f45ef50c5d0a3b99c8d5dae", func := "loop.example/g01340/laws.FnExactGrowFrame", spec := "fnExactGrowFrame", unfollowed := true, recurses := true, apart := false, narrowed := true }
def FnExactGrowFrameUptoSaid : Prop := fnExactGrowFrameUptoRow.holds Try.pinned (OpenSpec.upto fnExactGrowFrameSpec)

/-- 'laws.FnExactMoveFrame', WHERE WHAT IT READS IS OF BULK AT MOST 1048576: true; the input reads as it did. -/
def fnExactMoveFrameUptoRow : OpenClaim := { program := "ytlpldbcjnbpgiaa", sum := "5407027191fdd1b0dcdf4654b99be27891afe9163f45ef50c5d0a3b99c8d5dae", func := "loop.example/g01340/laws.FnExactMoveFrame", spec := "fnExactMoveFrame", unfollowed := true, recurses := true, apart := false, narrowed := true }
def FnExactMoveFrameUptoSaid : Prop := fnExactMoveFrameUptoRow.holds Try.pinned (OpenSpec.upto fnExactMoveFrameSpec)

end Rows
end Go.Proofs.Ytlpldbcjnbpgiaa
