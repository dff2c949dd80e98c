/-
  No cell of these rows narrows 'for every input' (looked for: loops, veiled, ifaces, maps, wideKeys, modest, calm, conditions, laid).
  DERIVED. THE GIVEN ROWS OF THIS SEAT. 12 by the template 'for every input the law returns true; each argument reads behind the call as it read before'; 0 by the template 'total and deterministic' (their statements: YtpginknbmmdmoaaTotals.lean).
  GIVEN WITH THE SEED: the statements are not yours to turn. If you find one false, say at which input.
  Laid BY PROGRAM, IN A SANDBOX (cutbox-rows.mjs): the forced cells as the released guide's own fill.sh prints them over the translation 2cf7f2eb421a2eb2… (all of the seat's roots in one cut). By AI agents, Wed Nov 11 2026. No macro, syntax, notation, axiom, sorry.
-/
import Derived.Test.YtpginknbmmdmoaaChecked
import GoSem.Claim
import GoSem.ClaimJoined
import GoSem.ClaimMapViews
import Derived.JoinedTies
import Derived.KernelRfl
namespace Go.Proofs.Ytpginknbmmdmoaa
/- THE CELL 'sum', in the pinned program and in every row, IS THE sha256 OF THE DUMP (.gsa) THAT YtpginknbmmdmoaaProg.lean LOADS. Nothing in Lean hashes anything: it is a label: what it is worth is what the hold of that sum in a sandbox is worth. -/
noncomputable def Try.pinned : Pinned := { name := "ytpginknbmmdmoaa", sum := "2cf7f2eb421a2eb291688a40a1ae44f990eee0814f19eec41963ce7e73685e05", checked := Try.checked }
namespace Rows
def none {H : Type} : Left H := { results := [], args := [] }

/-- 'laws.FnExactMiddleOf': WHATEVER THE INPUT: true; the input reads as it did. -/
def fnExactMiddleOfSpec : ChangeSpec := { name := "fnExactMiddleOf", fn := fun _ => fun
  | [d1, d2] => { results := [.lit (.bool true)], args := [d1, d2] }
  | _ => none }
def fnExactMiddleOfRow : OpenClaim := { program := "ytpginknbmmdmoaa", sum := "2cf7f2eb421a2eb291688a40a1ae44f990eee0814f19eec41963ce7e73685e05", func := "loop.example/g01340/laws.FnExactMiddleOf", spec := "fnExactMiddleOf", unfollowed := true, recurses := true, apart := false }
def FnExactMiddleOfSaid : Prop := fnExactMiddleOfRow.holds Try.pinned (OpenSpec.ofChange fnExactMiddleOfSpec)

/-- ITS FALSE NEIGHBOUR: 'it returns false'. Refute it at one input. -/
def fnExactMiddleOfWrong : ChangeSpec := { name := "fnExactMiddleOf", fn := fun _ => fun
  | [d1, d2] => { results := [.lit (.bool false)], args := [d1, d2] }
  | _ => none }
def FnExactMiddleOfWrongFalsely : Prop := fnExactMiddleOfRow.holds Try.pinned (OpenSpec.ofChange fnExactMiddleOfWrong)

/-- 'laws.FnExactSameScene': WHATEVER THE INPUT: true; the input reads as it did. -/
def fnExactSameSceneSpec : ChangeSpec := { name := "fnExactSameScene", fn := fun _ => fun
  | [d1, d2] => { results := [.lit (.bool true)], args := [d1, d2] }
  | _ => none }
def fnExactSameSceneRow : OpenClaim := { program := "ytpginknbmmdmoaa", sum := "2cf7f2eb421a2eb291688a40a1ae44f990eee0814f19eec41963ce7e73685e05", func := "loop.example/g01340/laws.FnExactSameScene", spec := "fnExactSameScene", apart := false }
def FnExactSameSceneSaid : Prop := fnExactSameSceneRow.holds Try.pinned (OpenSpec.ofChange fnExactSameSceneSpec)

/-- ITS FALSE NEIGHBOUR: 'it returns false'. Refute it at one input. -/
def fnExactSameSceneWrong : ChangeSpec := { name := "fnExactSameScene", fn := fun _ => fun
  | [d1, d2] => { results := [.lit (.bool false)], args := [d1, d2] }
  | _ => none }
def FnExactSameSceneWrongFalsely : Prop := fnExactSameSceneRow.holds Try.pinned (OpenSpec.ofChange fnExactSameSceneWrong)

/-- 'laws.FnExactMoveCel': WHATEVER THE INPUT: true; the input reads as it did. -/
def fnExactMoveCelSpec : ChangeSpec := { name := "fnExactMoveCel", fn := fun _ => fun
  | [d1, d2, d3] => { results := [.lit (.bool true)], args := [d1, d2, d3] }
  | _ => none }
def fnExactMoveCelRow : OpenClaim := { program := "ytpginknbmmdmoaa", sum := "2cf7f2eb421a2eb291688a40a1ae44f990eee0814f19eec41963ce7e73685e05", func := "loop.example/g01340/laws.FnExactMoveCel", spec := "fnExactMoveCel", unfollowed := true, recurses := true, apart := false }
def FnExactMoveCelSaid : Prop := fnExactMoveCelRow.holds Try.pinned (OpenSpec.ofChange fnExactMoveCelSpec)

/-- ITS FALSE NEIGHBOUR: 'it returns false'. Refute it at one input. -/
def fnExactMoveCelWrong : ChangeSpec := { name := "fnExactMoveCel", fn := fun _ => fun
  | [d1, d2, d3] => { results := [.lit (.bool false)], args := [d1, d2, d3] }
  | _ => none }
def FnExactMoveCelWrongFalsely : Prop := fnExactMoveCelRow.holds Try.pinned (OpenSpec.ofChange fnExactMoveCelWrong)

/-- 'laws.FnExactBlobAt': WHATEVER THE INPUT: true; the input reads as it did. -/
def fnExactBlobAtSpec : ChangeSpec := { name := "fnExactBlobAt", fn := fun _ => fun
  | [d1, d2, d3] => { results := [.lit (.bool true)], args := [d1, d2, d3] }
  | _ => none }
def fnExactBlobAtRow : OpenClaim := { program := "ytpginknbmmdmoaa", sum := "2cf7f2eb421a2eb291688a40a1ae44f990eee0814f19eec41963ce7e73685e05", func := "loop.example/g01340/laws.FnExactBlobAt", spec := "fnExactBlobAt", unfollowed := true, recurses := true, apart := false }
def FnExactBlobAtSaid : Prop := fnExactBlobAtRow.holds Try.pinned (OpenSpec.ofChange fnExactBlobAtSpec)

/-- ITS FALSE NEIGHBOUR: 'it returns false'. Refute it at one input. -/
def fnExactBlobAtWrong : ChangeSpec := { name := "fnExactBlobAt", fn := fun _ => fun
  | [d1, d2, d3] => { results := [.lit (.bool false)], args := [d1, d2, d3] }
  | _ => none }
def FnExactBlobAtWrongFalsely : Prop := fnExactBlobAtRow.holds Try.pinned (OpenSpec.ofChange fnExactBlobAtWrong)

/-- 'laws.FnExactValidScene': WHATEVER THE INPUT: true; the input reads as it did. -/
def fnExactValidSceneSpec : ChangeSpec := { name := "fnExactValidScene", fn := fun _ => fun
  | [d] => { results := [.lit (.bool true)], args := [d] }
  | _ => none }
def fnExactValidSceneRow : OpenClaim := { program := "ytpginknbmmdmoaa", sum := "2cf7f2eb421a2eb291688a40a1ae44f990eee0814f19eec41963ce7e73685e05", func := "loop.example/g01340/laws.FnExactValidScene", spec := "fnExactValidScene", unfollowed := true, recurses := true, apart := false }
def FnExactValidSceneSaid : Prop := fnExactValidSceneRow.holds Try.pinned (OpenSpec.ofChange fnExactValidSceneSpec)

/-- ITS FALSE NEIGHBOUR: 'it returns false'. Refute it at one input. -/
def fnExactValidSceneWrong : ChangeSpec := { name := "fnExactValidScene", fn := fun _ => fun
  | [d] => { results := [.lit (.bool false)], args := [d] }
  | _ => none }
def FnExactValidSceneWrongFalsely : Prop := fnExactValidSceneRow.holds Try.pinned (OpenSpec.ofChange fnExactValidSceneWrong)

/-- 'laws.FnExactMendPage': WHATEVER THE INPUT: true; the input reads as it did. -/
def fnExactMendPageSpec : ChangeSpec := { name := "fnExactMendPage", fn := fun _ => fun
  | [d1, d2] => { results := [.lit (.bool true)], args := [d1, d2] }
  | _ => none }
def fnExactMendPageRow : OpenClaim := { program := "ytpginknbmmdmoaa", sum := "2cf7f2eb421a2eb291688a40a1ae44f990eee0814f19eec41963ce7e73685e05", func := "loop.example/g01340/laws.FnExactMendPage", spec := "fnExactMendPage", unfollowed := true, recurses := true, apart := false }
def FnExactMendPageSaid : Prop := fnExactMendPageRow.holds Try.pinned (OpenSpec.ofChange fnExactMendPageSpec)

/-- ITS FALSE NEIGHBOUR: 'it returns false'. Refute it at one input. -/
def fnExactMendPageWrong : ChangeSpec := { name := "fnExactMendPage", fn := fun _ => fun
  | [d1, d2] => { results := [.lit (.bool false)], args := [d1, d2] }
  | _ => none }
def FnExactMendPageWrongFalsely : Prop := fnExactMendPageRow.holds Try.pinned (OpenSpec.ofChange fnExactMendPageWrong)

/-- 'laws.FnExactStrangePage': WHATEVER THE INPUT: true; the input reads as it did. -/
def fnExactStrangePageSpec : ChangeSpec := { name := "fnExactStrangePage", fn := fun _ => fun
  | [d] => { results := [.lit (.bool true)], args := [d] }
  | _ => none }
def fnExactStrangePageRow : OpenClaim := { program := "ytpginknbmmdmoaa", sum := "2cf7f2eb421a2eb291688a40a1ae44f990eee0814f19eec41963ce7e73685e05", func := "loop.example/g01340/laws.FnExactStrangePage", spec := "fnExactStrangePage", unfollowed := true, recurses := true, apart := false }
def FnExactStrangePageSaid : Prop := fnExactStrangePageRow.holds Try.pinned (OpenSpec.ofChange fnExactStrangePageSpec)

/-- ITS FALSE NEIGHBOUR: 'it returns false'. Refute it at one input. -/
def fnExactStrangePageWrong : ChangeSpec := { name := "fnExactStrangePage", fn := fun _ => fun
  | [d] => { results := [.lit (.bool false)], args := [d] }
  | _ => none }
def FnExactStrangePageWrongFalsely : Prop := fnExactStrangePageRow.holds Try.pinned (OpenSpec.ofChange fnExactStrangePageWrong)

/-- 'laws.FnExactMixedOf': WHATEVER THE INPUT: true; the input reads as it did. -/
def fnExactMixedOfSpec : ChangeSpec := { name := "fnExactMixedOf", fn := fun _ => fun
  | [d1, d2] => { results := [.lit (.bool true)], args := [d1, d2] }
  | _ => none }
def fnExactMixedOfRow : OpenClaim := { program := "ytpginknbmmdmoaa", sum := "2cf7f2eb421a2eb291688a40a1ae44f990eee0814f19eec41963ce7e73685e05", func := "loop.example/g01340/laws.FnExactMixedOf", spec := "fnExactMixedOf", unfollowed := true, recurses := true, apart := false }
def FnExactMixedOfSaid : Prop := fnExactMixedOfRow.holds Try.pinned (OpenSpec.ofChange fnExactMixedOfSpec)

/-- ITS FALSE NEIGHBOUR: 'it returns false'. Refute it at one input. -/
def fnExactMixedOfWrong : ChangeSpec := { name := "fnExactMixedOf", fn := fun _ => fun
  | [d1, d2] => { results := [.lit (.bool false)], args := [d1, d2] }
  | _ => none }
def FnExactMixedOfWrongFalsely : Prop := fnExactMixedOfRow.holds Try.pinned (OpenSpec.ofChange fnExactMixedOfWrong)

/-- 'laws.FnExactBlobsOf': WHATEVER THE INPUT: true; the input reads as it did. -/
def fnExactBlobsOfSpec : ChangeSpec := { name := "fnExactBlobsOf", fn := fun _ => fun
  | [d] => { results := [.lit (.bool true)], args := [d] }
  | _ => none }
def fnExactBlobsOfRow : OpenClaim := { program := "ytpginknbmmdmoaa", sum := "2cf7f2eb421a2eb291688a40a1ae44f990eee0814f19eec41963ce7e73685e05", func := "loop.example/g01340/laws.FnExactBlobsOf", spec := "fnExactBlobsOf", unfollowed := true, recurses := true, apart := false }
def FnExactBlobsOfSaid : Prop := fnExactBlobsOfRow.holds Try.pinned (OpenSpec.ofChange fnExactBlobsOfSpec)

/-- ITS FALSE NEIGHBOUR: 'it returns false'. Refute it at one input. -/
def fnExactBlobsOfWrong : ChangeSpec := { name := "fnExactBlobsOf", fn := fun _ => fun
  | [d] => { results := [.lit (.bool false)], args := [d] }
  | _ => none }
def FnExactBlobsOfWrongFalsely : Prop := fnExactBlobsOfRow.holds Try.pinned (OpenSpec.ofChange fnExactBlobsOfWrong)

/-- 'laws.FnExactOffsetAt': WHATEVER THE INPUT: true; the input reads as it did. -/
def fnExactOffsetAtSpec : ChangeSpec := { name := "fnExactOffsetAt", fn := fun _ => fun
  | [d1, d2, d3, d4] => { results := [.lit (.bool true)], args := [d1, d2, d3, d4] }
  | _ => none }
def fnExactOffsetAtRow : OpenClaim := { program := "ytpginknbmmdmoaa", sum := "2cf7f2eb421a2eb291688a40a1ae44f990eee0814f19eec41963ce7e73685e05", func := "loop.example/g01340/laws.FnExactOffsetAt", spec := "fnExactOffsetAt", unfollowed := true, recurses := true, apart := false }
def FnExactOffsetAtSaid : Prop := fnExactOffsetAtRow.holds Try.pinned (OpenSpec.ofChange fnExactOffsetAtSpec)

/-- ITS FALSE NEIGHBOUR: 'it returns false'. Refute it at one input. -/
def fnExactOffsetAtWrong : ChangeSpec := { name := "fnExactOffsetAt", fn := fun _ => fun
  | [d1, d2, d3, d4] => { results := [.lit (.bool false)], args := [d1, d2, d3, d4] }
  | _ => none }
def FnExactOffsetAtWrongFalsely : Prop := fnExactOffsetAtRow.holds Try.pinned (OpenSpec.ofChange fnExactOffsetAtWrong)

/-- 'laws.FnMorphs': WHATEVER THE INPUT: true; the input reads as it did. -/
def fnMorphsSpec : ChangeSpec := { name := "fnMorphs", fn := fun _ => fun
  | [d1, d2] => { results := [.lit (.bool true)], args := [d1, d2] }
  | _ => none }
def fnMorphsRow : OpenClaim := { program := "ytpginknbmmdmoaa", sum := "2cf7f2eb421a2eb291688a40a1ae44f990eee0814f19eec41963ce7e73685e05", func := "loop.example/g01340/laws.FnMorphs", spec := "fnMorphs", unfollowed := true, recurses := true, apart := false }
def FnMorphsSaid : Prop := fnMorphsRow.holds Try.pinned (OpenSpec.ofChange fnMorphsSpec)

/-- ITS FALSE NEIGHBOUR: 'it returns false'. Refute it at one input. -/
def fnMorphsWrong : ChangeSpec := { name := "fnMorphs", fn := fun _ => fun
  | [d1, d2] => { results := [.lit (.bool false)], args := [d1, d2] }
  | _ => none }
def FnMorphsWrongFalsely : Prop := fnMorphsRow.holds Try.pinned (OpenSpec.ofChange fnMorphsWrong)

/-- 'laws.FnMixed': WHATEVER THE INPUT: true; the input reads as it did. -/
def fnMixedSpec : ChangeSpec := { name := "fnMixed", fn := fun _ => fun
  | [d1, d2] => { results := [.lit (.bool true)], args := [d1, d2] }
  | _ => none }
def fnMixedRow : OpenClaim := { program := "ytpginknbmmdmoaa", sum := "2cf7f2eb421a2eb291688a40a1ae44f990eee0814f19eec41963ce7e73685e05", func := "loop.example/g01340/laws.FnMixed", spec := "fnMixed", unfollowed := true, recurses := true, apart := false }
def FnMixedSaid : Prop := fnMixedRow.holds Try.pinned (OpenSpec.ofChange fnMixedSpec)

/-- ITS FALSE NEIGHBOUR: 'it returns false'. Refute it at one input. -/
def fnMixedWrong : ChangeSpec := { name := "fnMixed", fn := fun _ => fun
  | [d1, d2] => { results := [.lit (.bool false)], args := [d1, d2] }
  | _ => none }
def FnMixedWrongFalsely : Prop := fnMixedRow.holds Try.pinned (OpenSpec.ofChange fnMixedWrong)

/- THE SECOND FORM. 'bulk': how many values and letters a reading holds, each counted each time it is reached (what is shared counts as often as it is met; a slice's spare places count too). A statement '..UptoSaid' is the law's where the arguments, and the package variables that the reading takes, are together of bulk at most 1048576: NARROWER than '..Said'. Prove '..Said' where nothing that the law and all that it calls make is longer than what came in: it says more and counts as full. Else prove '..UptoSaid'. A law counts once. -/
mutual
def uptoBulk {H : Type} : DataW H → Nat
  | .lit (.string bytes) => bytes.length + 1
  | .lit _ => 1
  | .nil => 1
  | .ptr d => uptoBulk d + 1
  | .slice elems spare => uptoBulkAll elems + uptoBulkAll spare + 1
  | .agg parts => uptoBulkAll parts + 1
  | .iface _ d => uptoBulk d + 1
  | .map entries => uptoBulkEntries entries + 1
  | .held _ => 1
def uptoBulkAll {H : Type} : List (DataW H) → Nat
  | [] => 0
  | d :: r => uptoBulk d + uptoBulkAll r
def uptoBulkEntries {H : Type} : List (Lit × DataW H) → Nat
  | [] => 0
  | x :: r => uptoBulkEntry x + uptoBulkEntries r
def uptoBulkEntry {H : Type} : Lit × DataW H → Nat
  | (.string bytes, d) => bytes.length + uptoBulk d + 1
  | (_, d) => uptoBulk d + 1
 end
def uptoSmall : (H : Type) → List (DataW H) → Bool := fun _ ds => decide (uptoBulkAll ds ≤ 1048576)
def OpenSpec.upto (s : _root_.Go.ChangeSpec) : _root_.Go.OpenSpec := { _root_.Go.OpenSpec.ofChange s with cond := some uptoSmall }

/-- 'laws.FnExactMiddleOf', WHERE WHAT IT READS IS OF BULK AT MOST 1048576: true; the input reads as it did. -/
def fnExactMiddleOfUptoRow : OpenClaim := { program := "ytpginknbmmdmoaa", sum := "2cf7f2eb421a2eb291688a40a1ae44f990eee0814f19eec41963ce7e73685e05", func := "loop.example/g01340/laws.FnExactMiddleOf", spec := "fnExactMiddleOf", unfollowed := true, recurses := true, apart := false, narrowed := true }
def FnExactMiddleOfUptoSaid : Prop := fnExactMiddleOfUptoRow.holds Try.pinned (OpenSpec.upto fnExactMiddleOfSpec)

/-- 'laws.FnExactSameScene', WHERE WHAT IT READS IS OF BULK AT MOST 1048576: true; the input reads as it did. -/
def fnExactSameSceneUptoRow : OpenClaim := { program := "ytpginknbmmdmoaa", sum := "2cf7f2eb421a2eb291688a40a1ae44f990eee0814f19eec41963ce7e73685e05", func := "loop.example/g01340/laws.FnExactSameScene", spec := "fnExactSameScene", apart := false, narrowed := true }
def FnExactSameSceneUptoSaid : Prop := fnExactSameSceneUptoRow.holds Try.pinned (OpenSpec.upto fnExactSameSceneSpec)

/-- 'laws.FnExactMoveCel', WHERE WHAT IT READS IS OF BULK AT MOST 1048576: true; the input reads as it did. -/
def fnExactMoveCelUptoRow : OpenClaim := { program := "ytpginknbmmdmoaa", sum := "2cf7f2eb421a2eb291688a40a1ae44f990eee0814f19eec41963ce7e73685e05", func := "loop.example/g01340/laws.FnExactMoveCel", spec := "fnExactMoveCel", unfollowed := true, recurses := true, apart := false, narrowed := true }
def FnExactMoveCelUptoSaid : Prop := fnExactMoveCelUptoRow.holds Try.pinned (OpenSpec.upto fnExactMoveCelSpec)

/-- 'laws.FnExactBlobAt', WHERE WHAT IT READS IS OF BULK AT MOST 1048576: true; the input reads as it did. -/
def fnExactBlobAtUptoRow : OpenClaim := { program := "ytpginknbmmdmoaa", sum := "2cf7f2eb421a2eb291688a40a1ae44f990eee0814f19eec41963ce7e73685e05", func := "loop.example/g01340/laws.FnExactBlobAt", spec := "fnExactBlobAt", unfollowed := true, recurses := true, apart := false, narrowed := true }
def FnExactBlobAtUptoSaid : Prop := fnExactBlobAtUptoRow.holds Try.pinned (OpenSpec.upto fnExactBlobAtSpec)

/-- 'laws.FnExactValidScene', WHERE WHAT IT READS IS OF BULK AT MOST 1048576: true; the input reads as it did. -/
def fnExactValidSceneUptoRow : OpenClaim := { program := "ytpginknbmmdmoaa", sum := "2cf7f2eb421a2eb291688a40a1ae44f990eee0814f19eec41963ce7e73685e05", func := "loop.example/g01340/laws.FnExactValidScene", spec := "fnExactValidScene", unfollowed := true, recurses := true, apart := false, narrowed := true }
def FnExactValidSceneUptoSaid : Prop := fnExactValidSceneUptoRow.holds Try.pinned (OpenSpec.upto fnExactValidSceneSpec)

/-- 'laws.FnExactMendPage', WHERE WHAT IT READS IS OF BULK AT MOST 1048576: true; the input reads as it did. -/
def fnExactMendPageUptoRow : OpenClaim := { program := "ytpginknbmmdmoaa", sum := "2cf7f2eb421a2eb291688a40a1ae44f990eee0814f19eec41963ce7e73685e05", func := "loop.example/g01340/laws.FnExactMendPage", spec := "fnExactMendPage", unfollowed := true, recurses := true, apart := false, narrowed := true }
def FnExactMendPageUptoSaid : Prop := fnExactMendPageUptoRow.holds Try.pinned (OpenSpec.upto fnExactMendPageSpec)

/-- 'laws.FnExactStrangePage', WHERE WHAT IT READS IS OF BULK AT MOST 1048576: true; the input reads as it did. -/
def fnExactStrangePageUptoRow : OpenClaim := { program := "ytpginknbmmdmoaa", sum := "2cf7f2eb421a2eb291688a40a1ae44f990eee0814f19eec41963ce7e73685e05", func := "loop.example/g01340/laws.FnExactStrangePage", spec := "fnExactStrangePage", unfollowed := true, recurses := true, apart := false, narrowed := true }
def FnExactStrangePageUptoSaid : Prop := fnExactStrangePageUptoRow.holds Try.pinned (OpenSpec.upto fnExactStrangePageSpec)

/-- 'laws.FnExactMixedOf', WHERE WHAT IT READS IS OF BULK AT MOST 1048576: true; the input reads as it did. -/
def fnExactMixedOfUptoRow : OpenClaim := { program := "ytpginknbmmdmoaa", sum := "2cf7f2eb421a2eb291688a40a1ae44f990eee0814f19eec41963ce7e73685e05", func := "loop.example/g01340/laws.FnExactMixedOf", spec := "fnExactMixedOf", unfollowed := true, recurses := true, apart := false, narrowed := true }
def FnExactMixedOfUptoSaid : Prop := fnExactMixedOfUptoRow.holds Try.pinned (OpenSpec.upto fnExactMixedOfSpec)

/-- 'laws.FnExactBlobsOf', WHERE WHAT IT READS IS OF BULK AT MOST 1048576: true; the input reads as it did. -/
def fnExactBlobsOfUptoRow : OpenClaim := { program := "ytpginknbmmdmoaa", sum := "2cf7f2eb421a2eb291688a40a1ae44f990eee0814f19eec41963ce7e73685e05", func := "loop.example/g01340/laws.FnExactBlobsOf", spec := "fnExactBlobsOf", unfollowed := true, recurses := true, apart := false, narrowed := true }
def FnExactBlobsOfUptoSaid : Prop := fnExactBlobsOfUptoRow.holds Try.pinned (OpenSpec.upto fnExactBlobsOfSpec)

/-- 'laws.FnExactOffsetAt', WHERE WHAT IT READS IS OF BULK AT MOST 1048576: true; the input reads as it did. -/
def fnExactOffsetAtUptoRow : OpenClaim := { program := "ytpginknbmmdmoaa", sum := "2cf7f2eb421a2eb291688a40a1ae44f990eee0814f19eec41963ce7e73685e05", func := "loop.example/g01340/laws.FnExactOffsetAt", spec := "fnExactOffsetAt", unfollowed := true, recurses := true, apart := false, narrowed := true }
def FnExactOffsetAtUptoSaid : Prop := fnExactOffsetAtUptoRow.holds Try.pinned (OpenSpec.upto fnExactOffsetAtSpec)

/-- 'laws.FnMorphs', WHERE WHAT IT READS IS OF BULK AT MOST 1048576: true; the input reads as it did. -/
def fnMorphsUptoRow : OpenClaim := { program := "ytpginknbmmdmoaa", sum := "2cf7f2eb421a2eb291688a40a1ae44f990eee0814f19eec41963ce7e73685e05", func := "loop.example/g01340/laws.FnMorphs", spec := "fnMorphs", unfollowed := true, recurses := true, apart := false, narrowed := true }
def FnMorphsUptoSaid : Prop := fnMorphsUptoRow.holds Try.pinned (OpenSpec.upto fnMorphsSpec)

/-- 'laws.FnMixed', WHERE WHAT IT READS IS OF BULK AT MOST 1048576: true; the input reads as it did. -/
def fnMixedUptoRow : OpenClaim := { program := "ytpginknbmmdmoaa", sum := "2cf7f2eb421a2eb291688a40a1ae44f990eee0814f19eec41963ce7e73685e05", func := "loop.example/g01340/laws.FnMixed", spec := "fnMixed", unfollowed := true, recurses := true, apart := false, narrowed := true }
def FnMixedUptoSaid : Prop := fnMixedUptoRow.holds Try.pinned (OpenSpec.upto fnMixedSpec)

end Rows
end Go.Proofs.Ytpginknbmmdmoaa
