/-
  No cell of these rows narrows 'for every input' (looked for: loops, veiled, ifaces, maps, wideKeys, modest, calm, conditions, laid).
  DERIVED. THE GIVEN ROWS OF THIS SEAT. 7 by the template 'for every input the law returns true; each argument reads behind the call as it read before'; 0 by the template 'total and deterministic' (their statements: YtpjimhkblldhaaaTotals.lean).
  GIVEN WITH THE SEED: the statements are not yours to turn. If you find one false, say at which input.
  Laid BY PROGRAM, IN A SANDBOX (cutbox-rows.mjs): the forced cells as the released guide's own fill.sh prints them over the translation 534277c470813c48… (all of the seat's roots in one cut). By AI agents, Wed Nov 11 2026. No macro, syntax, notation, axiom, sorry.
-/
import Derived.Test.YtpjimhkblldhaaaChecked
import GoSem.Claim
import GoSem.ClaimJoined
import GoSem.ClaimMapViews
import Derived.JoinedTies
import Derived.KernelRfl
namespace Go.Proofs.Ytpjimhkblldhaaa
/- THE CELL 'sum', in the pinned program and in every row, IS THE sha256 OF THE DUMP (.gsa) THAT YtpjimhkblldhaaaProg.lean LOADS. Nothing in Lean hashes anything: it is a label: what it is worth is what the hold of that sum in a sandbox is worth. -/
noncomputable def Try.pinned : Pinned := { name := "ytpjimhkblldhaaa", sum := "534277c470813c48cb2a47b7a946c1af617d111ab88a91b29a668add171fde61", checked := Try.checked }
namespace Rows
def none {H : Type} : Left H := { results := [], args := [] }

/-- 'laws.FnExactShiftTrack': WHATEVER THE INPUT: true; the input reads as it did. -/
def fnExactShiftTrackSpec : ChangeSpec := { name := "fnExactShiftTrack", fn := fun _ => fun
  | [d1, d2, d3, d4] => { results := [.lit (.bool true)], args := [d1, d2, d3, d4] }
  | _ => none }
def fnExactShiftTrackRow : OpenClaim := { program := "ytpjimhkblldhaaa", sum := "534277c470813c48cb2a47b7a946c1af617d111ab88a91b29a668add171fde61", func := "loop.example/g01340/laws.FnExactShiftTrack", spec := "fnExactShiftTrack", apart := false }
def FnExactShiftTrackSaid : Prop := fnExactShiftTrackRow.holds Try.pinned (OpenSpec.ofChange fnExactShiftTrackSpec)

/-- ITS FALSE NEIGHBOUR: 'it returns false'. Refute it at one input. -/
def fnExactShiftTrackWrong : ChangeSpec := { name := "fnExactShiftTrack", fn := fun _ => fun
  | [d1, d2, d3, d4] => { results := [.lit (.bool false)], args := [d1, d2, d3, d4] }
  | _ => none }
def FnExactShiftTrackWrongFalsely : Prop := fnExactShiftTrackRow.holds Try.pinned (OpenSpec.ofChange fnExactShiftTrackWrong)

/-- 'laws.FnExactJoinTracks': WHATEVER THE INPUT: true; the input reads as it did. -/
def fnExactJoinTracksSpec : ChangeSpec := { name := "fnExactJoinTracks", fn := fun _ => fun
  | [d1, d2] => { results := [.lit (.bool true)], args := [d1, d2] }
  | _ => none }
def fnExactJoinTracksRow : OpenClaim := { program := "ytpjimhkblldhaaa", sum := "534277c470813c48cb2a47b7a946c1af617d111ab88a91b29a668add171fde61", func := "loop.example/g01340/laws.FnExactJoinTracks", spec := "fnExactJoinTracks", apart := false }
def FnExactJoinTracksSaid : Prop := fnExactJoinTracksRow.holds Try.pinned (OpenSpec.ofChange fnExactJoinTracksSpec)

/-- ITS FALSE NEIGHBOUR: 'it returns false'. Refute it at one input. -/
def fnExactJoinTracksWrong : ChangeSpec := { name := "fnExactJoinTracks", fn := fun _ => fun
  | [d1, d2] => { results := [.lit (.bool false)], args := [d1, d2] }
  | _ => none }
def FnExactJoinTracksWrongFalsely : Prop := fnExactJoinTracksRow.holds Try.pinned (OpenSpec.ofChange fnExactJoinTracksWrong)

/-- 'laws.FnExactPlaceAt': WHATEVER THE INPUT: true; the input reads as it did. -/
def fnExactPlaceAtSpec : ChangeSpec := { name := "fnExactPlaceAt", fn := fun _ => fun
  | [d1, d2, d3] => { results := [.lit (.bool true)], args := [d1, d2, d3] }
  | _ => none }
def fnExactPlaceAtRow : OpenClaim := { program := "ytpjimhkblldhaaa", sum := "534277c470813c48cb2a47b7a946c1af617d111ab88a91b29a668add171fde61", func := "loop.example/g01340/laws.FnExactPlaceAt", spec := "fnExactPlaceAt", apart := false }
def FnExactPlaceAtSaid : Prop := fnExactPlaceAtRow.holds Try.pinned (OpenSpec.ofChange fnExactPlaceAtSpec)

/-- ITS FALSE NEIGHBOUR: 'it returns false'. Refute it at one input. -/
def fnExactPlaceAtWrong : ChangeSpec := { name := "fnExactPlaceAt", fn := fun _ => fun
  | [d1, d2, d3] => { results := [.lit (.bool false)], args := [d1, d2, d3] }
  | _ => none }
def FnExactPlaceAtWrongFalsely : Prop := fnExactPlaceAtRow.holds Try.pinned (OpenSpec.ofChange fnExactPlaceAtWrong)

/-- 'laws.FnExactArcTrack': WHATEVER THE INPUT: true; the input reads as it did. -/
def fnExactArcTrackSpec : ChangeSpec := { name := "fnExactArcTrack", fn := fun _ => fun
  | [d1, d2] => { results := [.lit (.bool true)], args := [d1, d2] }
  | _ => none }
def fnExactArcTrackRow : OpenClaim := { program := "ytpjimhkblldhaaa", sum := "534277c470813c48cb2a47b7a946c1af617d111ab88a91b29a668add171fde61", func := "loop.example/g01340/laws.FnExactArcTrack", spec := "fnExactArcTrack", apart := false }
def FnExactArcTrackSaid : Prop := fnExactArcTrackRow.holds Try.pinned (OpenSpec.ofChange fnExactArcTrackSpec)

/-- ITS FALSE NEIGHBOUR: 'it returns false'. Refute it at one input. -/
def fnExactArcTrackWrong : ChangeSpec := { name := "fnExactArcTrack", fn := fun _ => fun
  | [d1, d2] => { results := [.lit (.bool false)], args := [d1, d2] }
  | _ => none }
def FnExactArcTrackWrongFalsely : Prop := fnExactArcTrackRow.holds Try.pinned (OpenSpec.ofChange fnExactArcTrackWrong)

/-- 'laws.FnExactSpeedsOf': WHATEVER THE INPUT: true; the input reads as it did. -/
def fnExactSpeedsOfSpec : ChangeSpec := { name := "fnExactSpeedsOf", fn := fun _ => fun
  | [d1, d2] => { results := [.lit (.bool true)], args := [d1, d2] }
  | _ => none }
def fnExactSpeedsOfRow : OpenClaim := { program := "ytpjimhkblldhaaa", sum := "534277c470813c48cb2a47b7a946c1af617d111ab88a91b29a668add171fde61", func := "loop.example/g01340/laws.FnExactSpeedsOf", spec := "fnExactSpeedsOf", apart := false }
def FnExactSpeedsOfSaid : Prop := fnExactSpeedsOfRow.holds Try.pinned (OpenSpec.ofChange fnExactSpeedsOfSpec)

/-- ITS FALSE NEIGHBOUR: 'it returns false'. Refute it at one input. -/
def fnExactSpeedsOfWrong : ChangeSpec := { name := "fnExactSpeedsOf", fn := fun _ => fun
  | [d1, d2] => { results := [.lit (.bool false)], args := [d1, d2] }
  | _ => none }
def FnExactSpeedsOfWrongFalsely : Prop := fnExactSpeedsOfRow.holds Try.pinned (OpenSpec.ofChange fnExactSpeedsOfWrong)

/-- 'laws.FnExactFastestTick': WHATEVER THE INPUT: true; the input reads as it did. -/
def fnExactFastestTickSpec : ChangeSpec := { name := "fnExactFastestTick", fn := fun _ => fun
  | [d1, d2] => { results := [.lit (.bool true)], args := [d1, d2] }
  | _ => none }
def fnExactFastestTickRow : OpenClaim := { program := "ytpjimhkblldhaaa", sum := "534277c470813c48cb2a47b7a946c1af617d111ab88a91b29a668add171fde61", func := "loop.example/g01340/laws.FnExactFastestTick", spec := "fnExactFastestTick", apart := false }
def FnExactFastestTickSaid : Prop := fnExactFastestTickRow.holds Try.pinned (OpenSpec.ofChange fnExactFastestTickSpec)

/-- ITS FALSE NEIGHBOUR: 'it returns false'. Refute it at one input. -/
def fnExactFastestTickWrong : ChangeSpec := { name := "fnExactFastestTick", fn := fun _ => fun
  | [d1, d2] => { results := [.lit (.bool false)], args := [d1, d2] }
  | _ => none }
def FnExactFastestTickWrongFalsely : Prop := fnExactFastestTickRow.holds Try.pinned (OpenSpec.ofChange fnExactFastestTickWrong)

/-- 'laws.FnExactThinTrack': WHATEVER THE INPUT: true; the input reads as it did. -/
def fnExactThinTrackSpec : ChangeSpec := { name := "fnExactThinTrack", fn := fun _ => fun
  | [d] => { results := [.lit (.bool true)], args := [d] }
  | _ => none }
def fnExactThinTrackRow : OpenClaim := { program := "ytpjimhkblldhaaa", sum := "534277c470813c48cb2a47b7a946c1af617d111ab88a91b29a668add171fde61", func := "loop.example/g01340/laws.FnExactThinTrack", spec := "fnExactThinTrack", apart := false }
def FnExactThinTrackSaid : Prop := fnExactThinTrackRow.holds Try.pinned (OpenSpec.ofChange fnExactThinTrackSpec)

/-- ITS FALSE NEIGHBOUR: 'it returns false'. Refute it at one input. -/
def fnExactThinTrackWrong : ChangeSpec := { name := "fnExactThinTrack", fn := fun _ => fun
  | [d] => { results := [.lit (.bool false)], args := [d] }
  | _ => none }
def FnExactThinTrackWrongFalsely : Prop := fnExactThinTrackRow.holds Try.pinned (OpenSpec.ofChange fnExactThinTrackWrong)

/- THE SECOND FORM. 'bulk': how many values and letters a reading holds, each counted each time it is reached (what is shared counts as often as it is met; a slice's spare places count too). A statement '..UptoSaid' is the law's where the arguments, and the package variables that the reading takes, are together of bulk at most 1048576: NARROWER than '..Said'. Prove '..Said' where nothing that the law and all that it calls make is longer than what came in: it says more and counts as full. Else prove '..UptoSaid'. A law counts once. -/
mutual
def uptoBulk {H : Type} : DataW H → Nat
  | .lit (.string bytes) => bytes.length + 1
  | .lit _ => 1
  | .nil => 1
  | .ptr d => uptoBulk d + 1
  | .slice elems spare => uptoBulkAll elems + uptoBulkAll spare + 1
  | .agg parts => uptoBulkAll parts + 1
  | .iface _ d => uptoBulk d + 1
  | .map entries => uptoBulkEntries entries + 1
  | .held _ => 1
def uptoBulkAll {H : Type} : List (DataW H) → Nat
  | [] => 0
  | d :: r => uptoBulk d + uptoBulkAll r
def uptoBulkEntries {H : Type} : List (Lit × DataW H) → Nat
  | [] => 0
  | x :: r => uptoBulkEntry x + uptoBulkEntries r
def uptoBulkEntry {H : Type} : Lit × DataW H → Nat
  | (.string bytes, d) => bytes.length + uptoBulk d + 1
  | (_, d) => uptoBulk d + 1
 end
def uptoSmall : (H : Type) → List (DataW H) → Bool := fun _ ds => decide (uptoBulkAll ds ≤ 1048576)
def OpenSpec.upto (s : _root_.Go.ChangeSpec) : _root_.Go.OpenSpec := { _root_.Go.OpenSpec.ofChange s with cond := some uptoSmall }

/-- 'laws.FnExactShiftTrack', WHERE WHAT IT READS IS OF BULK AT MOST 1048576: true; the input reads as it did. -/
def fnExactShiftTrackUptoRow : OpenClaim := { program := "ytpjimhkblldhaaa", sum := "534277c470813c48cb2a47b7a946c1af617d111ab88a91b29a668add171fde61", func := "loop.example/g01340/laws.FnExactShiftTrack", spec := "fnExactShiftTrack", apart := false, narrowed := true }
def FnExactShiftTrackUptoSaid : Prop := fnExactShiftTrackUptoRow.holds Try.pinned (OpenSpec.upto fnExactShiftTrackSpec)

/-- 'laws.FnExactJoinTracks', WHERE WHAT IT READS IS OF BULK AT MOST 1048576: true; the input reads as it did. -/
def fnExactJoinTracksUptoRow : OpenClaim := { program := "ytpjimhkblldhaaa", sum := "534277c470813c48cb2a47b7a946c1af617d111ab88a91b29a668add171fde61", func := "loop.example/g01340/laws.FnExactJoinTracks", spec := "fnExactJoinTracks", apart := false, narrowed := true }
def FnExactJoinTracksUptoSaid : Prop := fnExactJoinTracksUptoRow.holds Try.pinned (OpenSpec.upto fnExactJoinTracksSpec)

/-- 'laws.FnExactPlaceAt', WHERE WHAT IT READS IS OF BULK AT MOST 1048576: true; the input reads as it did. -/
def fnExactPlaceAtUptoRow : OpenClaim := { program := "ytpjimhkblldhaaa", sum := "534277c470813c48cb2a47b7a946c1af617d111ab88a91b29a668add171fde61", func := "loop.example/g01340/laws.FnExactPlaceAt", spec := "fnExactPlaceAt", apart := false, narrowed := true }
def FnExactPlaceAtUptoSaid : Prop := fnExactPlaceAtUptoRow.holds Try.pinned (OpenSpec.upto fnExactPlaceAtSpec)

/-- 'laws.FnExactArcTrack', WHERE WHAT IT READS IS OF BULK AT MOST 1048576: true; the input reads as it did. -/
def fnExactArcTrackUptoRow : OpenClaim := { program := "ytpjimhkblldhaaa", sum := "534277c470813c48cb2a47b7a946c1af617d111ab88a91b29a668add171fde61", func := "loop.example/g01340/laws.FnExactArcTrack", spec := "fnExactArcTrack", apart := false, narrowed := true }
def FnExactArcTrackUptoSaid : Prop := fnExactArcTrackUptoRow.holds Try.pinned (OpenSpec.upto fnExactArcTrackSpec)

/-- 'laws.FnExactSpeedsOf', WHERE WHAT IT READS IS OF BULK AT MOST 1048576: true; the input reads as it did. -/
def fnExactSpeedsOfUptoRow : OpenClaim := { program := "ytpjimhkblldhaaa", sum := "534277c470813c48cb2a47b7a946c1af617d111ab88a91b29a668add171fde61", func := "loop.example/g01340/laws.FnExactSpeedsOf", spec := "fnExactSpeedsOf", apart := false, narrowed := true }
def FnExactSpeedsOfUptoSaid : Prop := fnExactSpeedsOfUptoRow.holds Try.pinned (OpenSpec.upto fnExactSpeedsOfSpec)

/-- 'laws.FnExactFastestTick', WHERE WHAT IT READS IS OF BULK AT MOST 1048576: true; the input reads as it did. -/
def fnExactFastestTickUptoRow : OpenClaim := { program := "ytpjimhkblldhaaa", sum := "534277c470813c48cb2a47b7a946c1af617d111ab88a91b29a668add171fde61", func := "loop.example/g01340/laws.FnExactFastestTick", spec := "fnExactFastestTick", apart := false, narrowed := true }
def FnExactFastestTickUptoSaid : Prop := fnExactFastestTickUptoRow.holds Try.pinned (OpenSpec.upto fnExactFastestTickSpec)

/-- 'laws.FnExactThinTrack', WHERE WHAT IT READS IS OF BULK AT MOST 1048576: true; the input reads as it did. -/
def fnExactThinTrackUptoRow : OpenClaim := { program := "ytpjimhkblldhaaa", sum := "534277c470813c48cb2a47b7a946c1af617d111ab88a91b29a668add171fde61", func := "loop.example/g01340/laws.FnExactThinTrack", spec := "fnExactThinTrack", apart := false, narrowed := true }
def FnExactThinTrackUptoSaid : Prop := fnExactThinTrackUptoRow.holds Try.pinned (OpenSpec.upto fnExactThinTrackSpec)

end Rows
end Go.Proofs.Ytpjimhkblldhaaa
