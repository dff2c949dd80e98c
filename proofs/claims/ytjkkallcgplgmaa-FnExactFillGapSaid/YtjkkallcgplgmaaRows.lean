/-
  No cell of these rows narrows 'for every input' (looked for: loops, veiled, ifaces, maps, wideKeys, modest, calm, conditions, laid).
  DERIVED. THE GIVEN ROWS OF THIS SEAT. 12 by the template 'for every input the law returns true; each argument reads behind the call as it read before'; 0 by the template 'total and deterministic' (their statements: YtjkkallcgplgmaaTotals.lean).
  GIVEN WITH THE SEED: the statements are not yours to turn. If you find one false, say at which input.
  Laid BY PROGRAM, IN A SANDBOX (cutbox-rows.mjs): the forced cells as the released guide's own fill.sh prints them over the translation 991c3cf21252a598… (all of the seat's roots in one cut). By AI agents, Wed Nov 11 2026. No macro, syntax, notation, axiom, sorry.
-/
import Derived.Test.YtjkkallcgplgmaaChecked
import GoSem.Claim
import GoSem.ClaimJoined
import GoSem.ClaimMapViews
import Derived.JoinedTies
import Derived.KernelRfl
namespace Go.Proofs.Ytjkkallcgplgmaa
/- THE CELL 'sum', in the pinned program and in every row, IS THE sha256 OF THE DUMP (.gsa) THAT YtjkkallcgplgmaaProg.lean LOADS. Nothing in Lean hashes anything: it is a label: what it is worth is what the hold of that sum in a sandbox is worth. -/
noncomputable def Try.pinned : Pinned := { name := "ytjkkallcgplgmaa", sum := "991c3cf21252a5987421f46c9c12e341486315ae0d3eccda9aee7c514f38df45", checked := Try.checked }
namespace Rows
def none {H : Type} : Left H := { results := [], args := [] }

/-- 'laws.FnExactWidestGap': WHATEVER THE INPUT: true; the input reads as it did. -/
def fnExactWidestGapSpec : ChangeSpec := { name := "fnExactWidestGap", fn := fun _ => fun
  | [d] => { results := [.lit (.bool true)], args := [d] }
  | _ => none }
def fnExactWidestGapRow : OpenClaim := { program := "ytjkkallcgplgmaa", sum := "991c3cf21252a5987421f46c9c12e341486315ae0d3eccda9aee7c514f38df45", func := "loop.example/g01340/laws.FnExactWidestGap", spec := "fnExactWidestGap", unfollowed := true, recurses := true, apart := false }
def FnExactWidestGapSaid : Prop := fnExactWidestGapRow.holds Try.pinned (OpenSpec.ofChange fnExactWidestGapSpec)

/-- ITS FALSE NEIGHBOUR: 'it returns false'. Refute it at one input. -/
def fnExactWidestGapWrong : ChangeSpec := { name := "fnExactWidestGap", fn := fun _ => fun
  | [d] => { results := [.lit (.bool false)], args := [d] }
  | _ => none }
def FnExactWidestGapWrongFalsely : Prop := fnExactWidestGapRow.holds Try.pinned (OpenSpec.ofChange fnExactWidestGapWrong)

/-- 'laws.FnExactTurnPages': WHATEVER THE INPUT: true; the input reads as it did. -/
def fnExactTurnPagesSpec : ChangeSpec := { name := "fnExactTurnPages", fn := fun _ => fun
  | [d1, d2] => { results := [.lit (.bool true)], args := [d1, d2] }
  | _ => none }
def fnExactTurnPagesRow : OpenClaim := { program := "ytjkkallcgplgmaa", sum := "991c3cf21252a5987421f46c9c12e341486315ae0d3eccda9aee7c514f38df45", func := "loop.example/g01340/laws.FnExactTurnPages", spec := "fnExactTurnPages", unfollowed := true, recurses := true, apart := false }
def FnExactTurnPagesSaid : Prop := fnExactTurnPagesRow.holds Try.pinned (OpenSpec.ofChange fnExactTurnPagesSpec)

/-- ITS FALSE NEIGHBOUR: 'it returns false'. Refute it at one input. -/
def fnExactTurnPagesWrong : ChangeSpec := { name := "fnExactTurnPages", fn := fun _ => fun
  | [d1, d2] => { results := [.lit (.bool false)], args := [d1, d2] }
  | _ => none }
def FnExactTurnPagesWrongFalsely : Prop := fnExactTurnPagesRow.holds Try.pinned (OpenSpec.ofChange fnExactTurnPagesWrong)

/-- 'laws.FnExactTreeBound': WHATEVER THE INPUT: true; the input reads as it did. -/
def fnExactTreeBoundSpec : ChangeSpec := { name := "fnExactTreeBound", fn := fun _ => fun
  | [d] => { results := [.lit (.bool true)], args := [d] }
  | _ => none }
def fnExactTreeBoundRow : OpenClaim := { program := "ytjkkallcgplgmaa", sum := "991c3cf21252a5987421f46c9c12e341486315ae0d3eccda9aee7c514f38df45", func := "loop.example/g01340/laws.FnExactTreeBound", spec := "fnExactTreeBound", unfollowed := true, recurses := true, apart := false }
def FnExactTreeBoundSaid : Prop := fnExactTreeBoundRow.holds Try.pinned (OpenSpec.ofChange fnExactTreeBoundSpec)

/-- ITS FALSE NEIGHBOUR: 'it returns false'. Refute it at one input. -/
def fnExactTreeBoundWrong : ChangeSpec := { name := "fnExactTreeBound", fn := fun _ => fun
  | [d] => { results := [.lit (.bool false)], args := [d] }
  | _ => none }
def FnExactTreeBoundWrongFalsely : Prop := fnExactTreeBoundRow.holds Try.pinned (OpenSpec.ofChange fnExactTreeBoundWrong)

/-- 'laws.FnExactUnmix': WHATEVER THE INPUT: true; the input reads as it did. -/
def fnExactUnmixSpec : ChangeSpec := { name := "fnExactUnmix", fn := fun _ => fun
  | [d] => { results := [.lit (.bool true)], args := [d] }
  | _ => none }
def fnExactUnmixRow : OpenClaim := { program := "ytjkkallcgplgmaa", sum := "991c3cf21252a5987421f46c9c12e341486315ae0d3eccda9aee7c514f38df45", func := "loop.example/g01340/laws.FnExactUnmix", spec := "fnExactUnmix", unfollowed := true, recurses := true, apart := false }
def FnExactUnmixSaid : Prop := fnExactUnmixRow.holds Try.pinned (OpenSpec.ofChange fnExactUnmixSpec)

/-- ITS FALSE NEIGHBOUR: 'it returns false'. Refute it at one input. -/
def fnExactUnmixWrong : ChangeSpec := { name := "fnExactUnmix", fn := fun _ => fun
  | [d] => { results := [.lit (.bool false)], args := [d] }
  | _ => none }
def FnExactUnmixWrongFalsely : Prop := fnExactUnmixRow.holds Try.pinned (OpenSpec.ofChange fnExactUnmixWrong)

/-- 'laws.FnExactNearestOrder': WHATEVER THE INPUT: true; the input reads as it did. -/
def fnExactNearestOrderSpec : ChangeSpec := { name := "fnExactNearestOrder", fn := fun _ => fun
  | [d1, d2] => { results := [.lit (.bool true)], args := [d1, d2] }
  | _ => none }
def fnExactNearestOrderRow : OpenClaim := { program := "ytjkkallcgplgmaa", sum := "991c3cf21252a5987421f46c9c12e341486315ae0d3eccda9aee7c514f38df45", func := "loop.example/g01340/laws.FnExactNearestOrder", spec := "fnExactNearestOrder", unfollowed := true, recurses := true, apart := false }
def FnExactNearestOrderSaid : Prop := fnExactNearestOrderRow.holds Try.pinned (OpenSpec.ofChange fnExactNearestOrderSpec)

/-- ITS FALSE NEIGHBOUR: 'it returns false'. Refute it at one input. -/
def fnExactNearestOrderWrong : ChangeSpec := { name := "fnExactNearestOrder", fn := fun _ => fun
  | [d1, d2] => { results := [.lit (.bool false)], args := [d1, d2] }
  | _ => none }
def FnExactNearestOrderWrongFalsely : Prop := fnExactNearestOrderRow.holds Try.pinned (OpenSpec.ofChange fnExactNearestOrderWrong)

/-- 'laws.FnExactLocalOrder': WHATEVER THE INPUT: true; the input reads as it did. -/
def fnExactLocalOrderSpec : ChangeSpec := { name := "fnExactLocalOrder", fn := fun _ => fun
  | [d] => { results := [.lit (.bool true)], args := [d] }
  | _ => none }
def fnExactLocalOrderRow : OpenClaim := { program := "ytjkkallcgplgmaa", sum := "991c3cf21252a5987421f46c9c12e341486315ae0d3eccda9aee7c514f38df45", func := "loop.example/g01340/laws.FnExactLocalOrder", spec := "fnExactLocalOrder", unfollowed := true, recurses := true, apart := false }
def FnExactLocalOrderSaid : Prop := fnExactLocalOrderRow.holds Try.pinned (OpenSpec.ofChange fnExactLocalOrderSpec)

/-- ITS FALSE NEIGHBOUR: 'it returns false'. Refute it at one input. -/
def fnExactLocalOrderWrong : ChangeSpec := { name := "fnExactLocalOrder", fn := fun _ => fun
  | [d] => { results := [.lit (.bool false)], args := [d] }
  | _ => none }
def FnExactLocalOrderWrongFalsely : Prop := fnExactLocalOrderRow.holds Try.pinned (OpenSpec.ofChange fnExactLocalOrderWrong)

/-- 'laws.FnExactBestOrder': WHATEVER THE INPUT: true; the input reads as it did. -/
def fnExactBestOrderSpec : ChangeSpec := { name := "fnExactBestOrder", fn := fun _ => fun
  | [d1, d2] => { results := [.lit (.bool true)], args := [d1, d2] }
  | _ => none }
def fnExactBestOrderRow : OpenClaim := { program := "ytjkkallcgplgmaa", sum := "991c3cf21252a5987421f46c9c12e341486315ae0d3eccda9aee7c514f38df45", func := "loop.example/g01340/laws.FnExactBestOrder", spec := "fnExactBestOrder", unfollowed := true, recurses := true, apart := false }
def FnExactBestOrderSaid : Prop := fnExactBestOrderRow.holds Try.pinned (OpenSpec.ofChange fnExactBestOrderSpec)

/-- ITS FALSE NEIGHBOUR: 'it returns false'. Refute it at one input. -/
def fnExactBestOrderWrong : ChangeSpec := { name := "fnExactBestOrder", fn := fun _ => fun
  | [d1, d2] => { results := [.lit (.bool false)], args := [d1, d2] }
  | _ => none }
def FnExactBestOrderWrongFalsely : Prop := fnExactBestOrderRow.holds Try.pinned (OpenSpec.ofChange fnExactBestOrderWrong)

/-- 'laws.FnExactFillGap': WHATEVER THE INPUT: true; the input reads as it did. -/
def fnExactFillGapSpec : ChangeSpec := { name := "fnExactFillGap", fn := fun _ => fun
  | [d1, d2] => { results := [.lit (.bool true)], args := [d1, d2] }
  | _ => none }
def fnExactFillGapRow : OpenClaim := { program := "ytjkkallcgplgmaa", sum := "991c3cf21252a5987421f46c9c12e341486315ae0d3eccda9aee7c514f38df45", func := "loop.example/g01340/laws.FnExactFillGap", spec := "fnExactFillGap", inPlace := ["slices.overlaps[loop.example/g01340/impl.Frame]"], unfollowed := true, recurses := true, apart := false }
def FnExactFillGapSaid : Prop := fnExactFillGapRow.holds Try.pinned (OpenSpec.ofChange fnExactFillGapSpec)

/-- ITS FALSE NEIGHBOUR: 'it returns false'. Refute it at one input. -/
def fnExactFillGapWrong : ChangeSpec := { name := "fnExactFillGap", fn := fun _ => fun
  | [d1, d2] => { results := [.lit (.bool false)], args := [d1, d2] }
  | _ => none }
def FnExactFillGapWrongFalsely : Prop := fnExactFillGapRow.holds Try.pinned (OpenSpec.ofChange fnExactFillGapWrong)

/-- 'laws.FnExactNearestPages': WHATEVER THE INPUT: true; the input reads as it did. -/
def fnExactNearestPagesSpec : ChangeSpec := { name := "fnExactNearestPages", fn := fun _ => fun
  | [d1, d2, d3] => { results := [.lit (.bool true)], args := [d1, d2, d3] }
  | _ => none }
def fnExactNearestPagesRow : OpenClaim := { program := "ytjkkallcgplgmaa", sum := "991c3cf21252a5987421f46c9c12e341486315ae0d3eccda9aee7c514f38df45", func := "loop.example/g01340/laws.FnExactNearestPages", spec := "fnExactNearestPages", unfollowed := true, recurses := true, apart := false }
def FnExactNearestPagesSaid : Prop := fnExactNearestPagesRow.holds Try.pinned (OpenSpec.ofChange fnExactNearestPagesSpec)

/-- ITS FALSE NEIGHBOUR: 'it returns false'. Refute it at one input. -/
def fnExactNearestPagesWrong : ChangeSpec := { name := "fnExactNearestPages", fn := fun _ => fun
  | [d1, d2, d3] => { results := [.lit (.bool false)], args := [d1, d2, d3] }
  | _ => none }
def FnExactNearestPagesWrongFalsely : Prop := fnExactNearestPagesRow.holds Try.pinned (OpenSpec.ofChange fnExactNearestPagesWrong)

/-- 'laws.FnExactReorderBook': WHATEVER THE INPUT: true; the input reads as it did. -/
def fnExactReorderBookSpec : ChangeSpec := { name := "fnExactReorderBook", fn := fun _ => fun
  | [d1, d2] => { results := [.lit (.bool true)], args := [d1, d2] }
  | _ => none }
def fnExactReorderBookRow : OpenClaim := { program := "ytjkkallcgplgmaa", sum := "991c3cf21252a5987421f46c9c12e341486315ae0d3eccda9aee7c514f38df45", func := "loop.example/g01340/laws.FnExactReorderBook", spec := "fnExactReorderBook", unfollowed := true, recurses := true, apart := false }
def FnExactReorderBookSaid : Prop := fnExactReorderBookRow.holds Try.pinned (OpenSpec.ofChange fnExactReorderBookSpec)

/-- ITS FALSE NEIGHBOUR: 'it returns false'. Refute it at one input. -/
def fnExactReorderBookWrong : ChangeSpec := { name := "fnExactReorderBook", fn := fun _ => fun
  | [d1, d2] => { results := [.lit (.bool false)], args := [d1, d2] }
  | _ => none }
def FnExactReorderBookWrongFalsely : Prop := fnExactReorderBookRow.holds Try.pinned (OpenSpec.ofChange fnExactReorderBookWrong)

/-- 'laws.FnExactOrderJumps': WHATEVER THE INPUT: true; the input reads as it did. -/
def fnExactOrderJumpsSpec : ChangeSpec := { name := "fnExactOrderJumps", fn := fun _ => fun
  | [d1, d2] => { results := [.lit (.bool true)], args := [d1, d2] }
  | _ => none }
def fnExactOrderJumpsRow : OpenClaim := { program := "ytjkkallcgplgmaa", sum := "991c3cf21252a5987421f46c9c12e341486315ae0d3eccda9aee7c514f38df45", func := "loop.example/g01340/laws.FnExactOrderJumps", spec := "fnExactOrderJumps", unfollowed := true, recurses := true, apart := false }
def FnExactOrderJumpsSaid : Prop := fnExactOrderJumpsRow.holds Try.pinned (OpenSpec.ofChange fnExactOrderJumpsSpec)

/-- ITS FALSE NEIGHBOUR: 'it returns false'. Refute it at one input. -/
def fnExactOrderJumpsWrong : ChangeSpec := { name := "fnExactOrderJumps", fn := fun _ => fun
  | [d1, d2] => { results := [.lit (.bool false)], args := [d1, d2] }
  | _ => none }
def FnExactOrderJumpsWrongFalsely : Prop := fnExactOrderJumpsRow.holds Try.pinned (OpenSpec.ofChange fnExactOrderJumpsWrong)

/-- 'laws.FnExactTurnsFor': WHATEVER THE INPUT: true; the input reads as it did. -/
def fnExactTurnsForSpec : ChangeSpec := { name := "fnExactTurnsFor", fn := fun _ => fun
  | [d1, d2] => { results := [.lit (.bool true)], args := [d1, d2] }
  | _ => none }
def fnExactTurnsForRow : OpenClaim := { program := "ytjkkallcgplgmaa", sum := "991c3cf21252a5987421f46c9c12e341486315ae0d3eccda9aee7c514f38df45", func := "loop.example/g01340/laws.FnExactTurnsFor", spec := "fnExactTurnsFor", unfollowed := true, recurses := true, apart := false }
def FnExactTurnsForSaid : Prop := fnExactTurnsForRow.holds Try.pinned (OpenSpec.ofChange fnExactTurnsForSpec)

/-- ITS FALSE NEIGHBOUR: 'it returns false'. Refute it at one input. -/
def fnExactTurnsForWrong : ChangeSpec := { name := "fnExactTurnsFor", fn := fun _ => fun
  | [d1, d2] => { results := [.lit (.bool false)], args := [d1, d2] }
  | _ => none }
def FnExactTurnsForWrongFalsely : Prop := fnExactTurnsForRow.holds Try.pinned (OpenSpec.ofChange fnExactTurnsForWrong)

/- THE SECOND FORM. 'bulk': how many values and letters a reading holds, each counted each time it is reached (what is shared counts as often as it is met; a slice's spare places count too). A statement '..UptoSaid' is the law's where the arguments, and the package variables that the reading takes, are together of bulk at most 1048576: NARROWER than '..Said'. Prove '..Said' where nothing that the law and all that it calls make is longer than what came in: it says more and counts as full. Else prove '..UptoSaid'. A law counts once. -/
mutual
def uptoBulk {H : Type} : DataW H → Nat
  | .lit (.string bytes) => bytes.length + 1
  | .lit _ => 1
  | .nil => 1
  | .ptr d => uptoBulk d + 1
  | .slice elems spare => uptoBulkAll elems + uptoBulkAll spare + 1
  | .agg parts => uptoBulkAll parts + 1
  | .iface _ d => uptoBulk d + 1
  | .map entries => uptoBulkEntries entries + 1
  | .held _ => 1
def uptoBulkAll {H : Type} : List (DataW H) → Nat
  | [] => 0
  | d :: r => uptoBulk d + uptoBulkAll r
def uptoBulkEntries {H : Type} : List (Lit × DataW H) → Nat
  | [] => 0
  | x :: r => uptoBulkEntry x + uptoBulkEntries r
def uptoBulkEntry {H : Type} : Lit × DataW H → Nat
  | (.string bytes, d) => bytes.length + uptoBulk d + 1
  | (_, d) => uptoBulk d + 1
 end
def uptoSmall : (H : Type) → List (DataW H) → Bool := fun _ ds => decide (uptoBulkAll ds ≤ 1048576)
def OpenSpec.upto (s : _root_.Go.ChangeSpec) : _root_.Go.OpenSpec := { _root_.Go.OpenSpec.ofChange s with cond := some uptoSmall }

/-- 'laws.FnExactWidestGap', WHERE WHAT IT READS IS OF BULK AT MOST 1048576: true; the input reads as it did. -/
def fnExactWidestGapUptoRow : OpenClaim := { program := "ytjkkallcgplgmaa", sum := "991c3cf21252a5987421f46c9c12e341486315ae0d3eccda9aee7c514f38df45", func := "loop.example/g01340/laws.FnExactWidestGap", spec := "fnExactWidestGap", unfollowed := true, recurses := true, apart := false, narrowed := true }
def FnExactWidestGapUptoSaid : Prop := fnExactWidestGapUptoRow.holds Try.pinned (OpenSpec.upto fnExactWidestGapSpec)

/-- 'laws.FnExactTurnPages', WHERE WHAT IT READS IS OF BULK AT MOST 1048576: true; the input reads as it did. -/
def fnExactTurnPagesUptoRow : OpenClaim := { program := "ytjkkallcgplgmaa", sum := "991c3cf21252a5987421f46c9c12e341486315ae0d3eccda9aee7c514f38df45", func := "loop.example/g01340/laws.FnExactTurnPages", spec := "fnExactTurnPages", unfollowed := true, recurses := true, apart := false, narrowed := true }
def FnExactTurnPagesUptoSaid : Prop := fnExactTurnPagesUptoRow.holds Try.pinned (OpenSpec.upto fnExactTurnPagesSpec)

/-- 'laws.FnExactTreeBound', WHERE WHAT IT READS IS OF BULK AT MOST 1048576: true; the input reads as it did. -/
def fnExactTreeBoundUptoRow : OpenClaim := { program := "ytjkkallcgplgmaa", sum := "991c3cf21252a5987421f46c9c12e341486315ae0d3eccda9aee7c514f38df45", func := "loop.example/g01340/laws.FnExactTreeBound", spec := "fnExactTreeBound", unfollowed := true, recurses := true, apart := false, narrowed := true }
def FnExactTreeBoundUptoSaid : Prop := fnExactTreeBoundUptoRow.holds Try.pinned (OpenSpec.upto fnExactTreeBoundSpec)

/-- 'laws.FnExactUnmix', WHERE WHAT IT READS IS OF BULK AT MOST 1048576: true; the input reads as it did. -/
def fnExactUnmixUptoRow : OpenClaim := { program := "ytjkkallcgplgmaa", sum := "991c3cf21252a5987421f46c9c12e341486315ae0d3eccda9aee7c514f38df45", func := "loop.example/g01340/laws.FnExactUnmix", spec := "fnExactUnmix", unfollowed := true, recurses := true, apart := false, narrowed := true }
def FnExactUnmixUptoSaid : Prop := fnExactUnmixUptoRow.holds Try.pinned (OpenSpec.upto fnExactUnmixSpec)

/-- 'laws.FnExactNearestOrder', WHERE WHAT IT READS IS OF BULK AT MOST 1048576: true; the input reads as it did. -/
def fnExactNearestOrderUptoRow : OpenClaim := { program := "ytjkkallcgplgmaa", sum := "991c3cf21252a5987421f46c9c12e341486315ae0d3eccda9aee7c514f38df45", func := "loop.example/g01340/laws.FnExactNearestOrder", spec := "fnExactNearestOrder", unfollowed := true, recurses := true, apart := false, narrowed := true }
def FnExactNearestOrderUptoSaid : Prop := fnExactNearestOrderUptoRow.holds Try.pinned (OpenSpec.upto fnExactNearestOrderSpec)

/-- 'laws.FnExactLocalOrder', WHERE WHAT IT READS IS OF BULK AT MOST 1048576: true; the input reads as it did. -/
def fnExactLocalOrderUptoRow : OpenClaim := { program := "ytjkkallcgplgmaa", sum := "991c3cf21252a5987421f46c9c12e341486315ae0d3eccda9aee7c514f38df45", func := "loop.example/g01340/laws.FnExactLocalOrder", spec := "fnExactLocalOrder", unfollowed := true, recurses := true, apart := false, narrowed := true }
def FnExactLocalOrderUptoSaid : Prop := fnExactLocalOrderUptoRow.holds Try.pinned (OpenSpec.upto fnExactLocalOrderSpec)

/-- 'laws.FnExactBestOrder', WHERE WHAT IT READS IS OF BULK AT MOST 1048576: true; the input reads as it did. -/
def fnExactBestOrderUptoRow : OpenClaim := { program := "ytjkkallcgplgmaa", sum := "991c3cf21252a5987421f46c9c12e341486315ae0d3eccda9aee7c514f38df45", func := "loop.example/g01340/laws.FnExactBestOrder", spec := "fnExactBestOrder", unfollowed := true, recurses := true, apart := false, narrowed := true }
def FnExactBestOrderUptoSaid : Prop := fnExactBestOrderUptoRow.holds Try.pinned (OpenSpec.upto fnExactBestOrderSpec)

/-- 'laws.FnExactFillGap', WHERE WHAT IT READS IS OF BULK AT MOST 1048576: true; the input reads as it did. -/
def fnExactFillGapUptoRow : OpenClaim := { program := "ytjkkallcgplgmaa", sum := "991c3cf21252a5987421f46c9c12e341486315ae0d3eccda9aee7c514f38df45", func := "loop.example/g01340/laws.FnExactFillGap", spec := "fnExactFillGap", inPlace := ["slices.overlaps[loop.example/g01340/impl.Frame]"], unfollowed := true, recurses := true, apart := false, narrowed := true }
def FnExactFillGapUptoSaid : Prop := fnExactFillGapUptoRow.holds Try.pinned (OpenSpec.upto fnExactFillGapSpec)

/-- 'laws.FnExactNearestPages', WHERE WHAT IT READS IS OF BULK AT MOST 1048576: true; the input reads as it did. -/
def fnExactNearestPagesUptoRow : OpenClaim := { program := "ytjkkallcgplgmaa", sum := "991c3cf21252a5987421f46c9c12e341486315ae0d3eccda9aee7c514f38df45", func := "loop.example/g01340/laws.FnExactNearestPages", spec := "fnExactNearestPages", unfollowed := true, recurses := true, apart := false, narrowed := true }
def FnExactNearestPagesUptoSaid : Prop := fnExactNearestPagesUptoRow.holds Try.pinned (OpenSpec.upto fnExactNearestPagesSpec)

/-- 'laws.FnExactReorderBook', WHERE WHAT IT READS IS OF BULK AT MOST 1048576: true; the input reads as it did. -/
def fnExactReorderBookUptoRow : OpenClaim := { program := "ytjkkallcgplgmaa", sum := "991c3cf21252a5987421f46c9c12e341486315ae0d3eccda9aee7c514f38df45", func := "loop.example/g01340/laws.FnExactReorderBook", spec := "fnExactReorderBook", unfollowed := true, recurses := true, apart := false, narrowed := true }
def FnExactReorderBookUptoSaid : Prop := fnExactReorderBookUptoRow.holds Try.pinned (OpenSpec.upto fnExactReorderBookSpec)

/-- 'laws.FnExactOrderJumps', WHERE WHAT IT READS IS OF BULK AT MOST 1048576: true; the input reads as it did. -/
def fnExactOrderJumpsUptoRow : OpenClaim := { program := "ytjkkallcgplgmaa", sum := "991c3cf21252a5987421f46c9c12e341486315ae0d3eccda9aee7c514f38df45", func := "loop.example/g01340/laws.FnExactOrderJumps", spec := "fnExactOrderJumps", unfollowed := true, recurses := true, apart := false, narrowed := true }
def FnExactOrderJumpsUptoSaid : Prop := fnExactOrderJumpsUptoRow.holds Try.pinned (OpenSpec.upto fnExactOrderJumpsSpec)

/-- 'laws.FnExactTurnsFor', WHERE WHAT IT READS IS OF BULK AT MOST 1048576: true; the input reads as it did. -/
def fnExactTurnsForUptoRow : OpenClaim := { program := "ytjkkallcgplgmaa", sum := "991c3cf21252a5987421f46c9c12e341486315ae0d3eccda9aee7c514f38df45", func := "loop.example/g01340/laws.FnExactTurnsFor", spec := "fnExactTurnsFor", unfollowed := true, recurses := true, apart := false, narrowed := true }
def FnExactTurnsForUptoSaid : Prop := fnExactTurnsForUptoRow.holds Try.pinned (OpenSpec.upto fnExactTurnsForSpec)

end Rows
end Go.Proofs.Ytjkkallcgplgmaa
