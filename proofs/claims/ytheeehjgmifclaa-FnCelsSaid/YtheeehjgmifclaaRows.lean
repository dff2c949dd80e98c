/-
  No cell of these rows narrows 'for every input' (looked for: loops, veiled, ifaces, maps, wideKeys, modest, calm, conditions, laid).
  DERIVED. THE GIVEN ROWS OF THIS SEAT. 12 by the template 'for every input the law returns true; each argument reads behind the call as it read before'; 0 by the template 'total and deterministic' (their statements: YtheeehjgmifclaaTotals.lean).
  GIVEN WITH THE SEED: the statements are not yours to turn. If you find one false, say at which input.
  Laid BY PROGRAM, IN A SANDBOX (cutbox-rows.mjs): the forced cells as the released guide's own fill.sh prints them over the translation 0756ecbeb4c3a009… (all of the seat's roots in one cut). By AI agents, Wed Nov 11 2026. No macro, syntax, notation, axiom, sorry.
-/
import Derived.Test.YtheeehjgmifclaaChecked
import GoSem.Claim
import GoSem.ClaimJoined
import GoSem.ClaimMapViews
import Derived.JoinedTies
import Derived.KernelRfl
namespace Go.Proofs.Ytheeehjgmifclaa
/- THE CELL 'sum', in the pinned program and in every row, IS THE sha256 OF THE DUMP (.gsa) THAT YtheeehjgmifclaaProg.lean LOADS. Nothing in Lean hashes anything: it is a label: what it is worth is what the hold of that sum in a sandbox is worth. -/
noncomputable def Try.pinned : Pinned := { name := "ytheeehjgmifclaa", sum := "0756ecbeb4c3a009216e50d2a7388713a68ff1957e8a90b6b56699098925f328", checked := Try.checked }
namespace Rows
def none {H : Type} : Left H := { results := [], args := [] }

/-- 'laws.FnExactDropLayer': WHATEVER THE INPUT: true; the input reads as it did. -/
def fnExactDropLayerSpec : ChangeSpec := { name := "fnExactDropLayer", fn := fun _ => fun
  | [d1, d2] => { results := [.lit (.bool true)], args := [d1, d2] }
  | _ => none }
def fnExactDropLayerRow : OpenClaim := { program := "ytheeehjgmifclaa", sum := "0756ecbeb4c3a009216e50d2a7388713a68ff1957e8a90b6b56699098925f328", func := "loop.example/g01340/laws.FnExactDropLayer", spec := "fnExactDropLayer", unfollowed := true, recurses := true, apart := false }
def FnExactDropLayerSaid : Prop := fnExactDropLayerRow.holds Try.pinned (OpenSpec.ofChange fnExactDropLayerSpec)

/-- ITS FALSE NEIGHBOUR: 'it returns false'. Refute it at one input. -/
def fnExactDropLayerWrong : ChangeSpec := { name := "fnExactDropLayer", fn := fun _ => fun
  | [d1, d2] => { results := [.lit (.bool false)], args := [d1, d2] }
  | _ => none }
def FnExactDropLayerWrongFalsely : Prop := fnExactDropLayerRow.holds Try.pinned (OpenSpec.ofChange fnExactDropLayerWrong)

/-- 'laws.FnExactAddLayer': WHATEVER THE INPUT: true; the input reads as it did. -/
def fnExactAddLayerSpec : ChangeSpec := { name := "fnExactAddLayer", fn := fun _ => fun
  | [d1, d2] => { results := [.lit (.bool true)], args := [d1, d2] }
  | _ => none }
def fnExactAddLayerRow : OpenClaim := { program := "ytheeehjgmifclaa", sum := "0756ecbeb4c3a009216e50d2a7388713a68ff1957e8a90b6b56699098925f328", func := "loop.example/g01340/laws.FnExactAddLayer", spec := "fnExactAddLayer", unfollowed := true, recurses := true, apart := false }
def FnExactAddLayerSaid : Prop := fnExactAddLayerRow.holds Try.pinned (OpenSpec.ofChange fnExactAddLayerSpec)

/-- ITS FALSE NEIGHBOUR: 'it returns false'. Refute it at one input. -/
def fnExactAddLayerWrong : ChangeSpec := { name := "fnExactAddLayer", fn := fun _ => fun
  | [d1, d2] => { results := [.lit (.bool false)], args := [d1, d2] }
  | _ => none }
def FnExactAddLayerWrongFalsely : Prop := fnExactAddLayerRow.holds Try.pinned (OpenSpec.ofChange fnExactAddLayerWrong)

/-- 'laws.FnExactRaiseLayer': WHATEVER THE INPUT: true; the input reads as it did. -/
def fnExactRaiseLayerSpec : ChangeSpec := { name := "fnExactRaiseLayer", fn := fun _ => fun
  | [d1, d2] => { results := [.lit (.bool true)], args := [d1, d2] }
  | _ => none }
def fnExactRaiseLayerRow : OpenClaim := { program := "ytheeehjgmifclaa", sum := "0756ecbeb4c3a009216e50d2a7388713a68ff1957e8a90b6b56699098925f328", func := "loop.example/g01340/laws.FnExactRaiseLayer", spec := "fnExactRaiseLayer", unfollowed := true, recurses := true, apart := false }
def FnExactRaiseLayerSaid : Prop := fnExactRaiseLayerRow.holds Try.pinned (OpenSpec.ofChange fnExactRaiseLayerSpec)

/-- ITS FALSE NEIGHBOUR: 'it returns false'. Refute it at one input. -/
def fnExactRaiseLayerWrong : ChangeSpec := { name := "fnExactRaiseLayer", fn := fun _ => fun
  | [d1, d2] => { results := [.lit (.bool false)], args := [d1, d2] }
  | _ => none }
def FnExactRaiseLayerWrongFalsely : Prop := fnExactRaiseLayerRow.holds Try.pinned (OpenSpec.ofChange fnExactRaiseLayerWrong)

/-- 'laws.FnExactFlattenScene': WHATEVER THE INPUT: true; the input reads as it did. -/
def fnExactFlattenSceneSpec : ChangeSpec := { name := "fnExactFlattenScene", fn := fun _ => fun
  | [d1, d2, d3] => { results := [.lit (.bool true)], args := [d1, d2, d3] }
  | _ => none }
def fnExactFlattenSceneRow : OpenClaim := { program := "ytheeehjgmifclaa", sum := "0756ecbeb4c3a009216e50d2a7388713a68ff1957e8a90b6b56699098925f328", func := "loop.example/g01340/laws.FnExactFlattenScene", spec := "fnExactFlattenScene", unfollowed := true, recurses := true, apart := false }
def FnExactFlattenSceneSaid : Prop := fnExactFlattenSceneRow.holds Try.pinned (OpenSpec.ofChange fnExactFlattenSceneSpec)

/-- ITS FALSE NEIGHBOUR: 'it returns false'. Refute it at one input. -/
def fnExactFlattenSceneWrong : ChangeSpec := { name := "fnExactFlattenScene", fn := fun _ => fun
  | [d1, d2, d3] => { results := [.lit (.bool false)], args := [d1, d2, d3] }
  | _ => none }
def FnExactFlattenSceneWrongFalsely : Prop := fnExactFlattenSceneRow.holds Try.pinned (OpenSpec.ofChange fnExactFlattenSceneWrong)

/-- 'laws.FnExactShowScene': WHATEVER THE INPUT: true; the input reads as it did. -/
def fnExactShowSceneSpec : ChangeSpec := { name := "fnExactShowScene", fn := fun _ => fun
  | [d1, d2, d3] => { results := [.lit (.bool true)], args := [d1, d2, d3] }
  | _ => none }
def fnExactShowSceneRow : OpenClaim := { program := "ytheeehjgmifclaa", sum := "0756ecbeb4c3a009216e50d2a7388713a68ff1957e8a90b6b56699098925f328", func := "loop.example/g01340/laws.FnExactShowScene", spec := "fnExactShowScene", unfollowed := true, recurses := true, apart := false }
def FnExactShowSceneSaid : Prop := fnExactShowSceneRow.holds Try.pinned (OpenSpec.ofChange fnExactShowSceneSpec)

/-- ITS FALSE NEIGHBOUR: 'it returns false'. Refute it at one input. -/
def fnExactShowSceneWrong : ChangeSpec := { name := "fnExactShowScene", fn := fun _ => fun
  | [d1, d2, d3] => { results := [.lit (.bool false)], args := [d1, d2, d3] }
  | _ => none }
def FnExactShowSceneWrongFalsely : Prop := fnExactShowSceneRow.holds Try.pinned (OpenSpec.ofChange fnExactShowSceneWrong)

/-- 'laws.FnExactLayerAt': WHATEVER THE INPUT: true; the input reads as it did. -/
def fnExactLayerAtSpec : ChangeSpec := { name := "fnExactLayerAt", fn := fun _ => fun
  | [d1, d2, d3, d4, d5] => { results := [.lit (.bool true)], args := [d1, d2, d3, d4, d5] }
  | _ => none }
def fnExactLayerAtRow : OpenClaim := { program := "ytheeehjgmifclaa", sum := "0756ecbeb4c3a009216e50d2a7388713a68ff1957e8a90b6b56699098925f328", func := "loop.example/g01340/laws.FnExactLayerAt", spec := "fnExactLayerAt", unfollowed := true, recurses := true, apart := false }
def FnExactLayerAtSaid : Prop := fnExactLayerAtRow.holds Try.pinned (OpenSpec.ofChange fnExactLayerAtSpec)

/-- ITS FALSE NEIGHBOUR: 'it returns false'. Refute it at one input. -/
def fnExactLayerAtWrong : ChangeSpec := { name := "fnExactLayerAt", fn := fun _ => fun
  | [d1, d2, d3, d4, d5] => { results := [.lit (.bool false)], args := [d1, d2, d3, d4, d5] }
  | _ => none }
def FnExactLayerAtWrongFalsely : Prop := fnExactLayerAtRow.holds Try.pinned (OpenSpec.ofChange fnExactLayerAtWrong)

/-- 'laws.FnExactCanSwap': WHATEVER THE INPUT: true; the input reads as it did. -/
def fnExactCanSwapSpec : ChangeSpec := { name := "fnExactCanSwap", fn := fun _ => fun
  | [d1, d2, d3, d4] => { results := [.lit (.bool true)], args := [d1, d2, d3, d4] }
  | _ => none }
def fnExactCanSwapRow : OpenClaim := { program := "ytheeehjgmifclaa", sum := "0756ecbeb4c3a009216e50d2a7388713a68ff1957e8a90b6b56699098925f328", func := "loop.example/g01340/laws.FnExactCanSwap", spec := "fnExactCanSwap", unfollowed := true, recurses := true, apart := false }
def FnExactCanSwapSaid : Prop := fnExactCanSwapRow.holds Try.pinned (OpenSpec.ofChange fnExactCanSwapSpec)

/-- ITS FALSE NEIGHBOUR: 'it returns false'. Refute it at one input. -/
def fnExactCanSwapWrong : ChangeSpec := { name := "fnExactCanSwap", fn := fun _ => fun
  | [d1, d2, d3, d4] => { results := [.lit (.bool false)], args := [d1, d2, d3, d4] }
  | _ => none }
def FnExactCanSwapWrongFalsely : Prop := fnExactCanSwapRow.holds Try.pinned (OpenSpec.ofChange fnExactCanSwapWrong)

/-- 'laws.FnExactSeenDots': WHATEVER THE INPUT: true; the input reads as it did. -/
def fnExactSeenDotsSpec : ChangeSpec := { name := "fnExactSeenDots", fn := fun _ => fun
  | [d1, d2, d3] => { results := [.lit (.bool true)], args := [d1, d2, d3] }
  | _ => none }
def fnExactSeenDotsRow : OpenClaim := { program := "ytheeehjgmifclaa", sum := "0756ecbeb4c3a009216e50d2a7388713a68ff1957e8a90b6b56699098925f328", func := "loop.example/g01340/laws.FnExactSeenDots", spec := "fnExactSeenDots", unfollowed := true, recurses := true, apart := false }
def FnExactSeenDotsSaid : Prop := fnExactSeenDotsRow.holds Try.pinned (OpenSpec.ofChange fnExactSeenDotsSpec)

/-- ITS FALSE NEIGHBOUR: 'it returns false'. Refute it at one input. -/
def fnExactSeenDotsWrong : ChangeSpec := { name := "fnExactSeenDots", fn := fun _ => fun
  | [d1, d2, d3] => { results := [.lit (.bool false)], args := [d1, d2, d3] }
  | _ => none }
def FnExactSeenDotsWrongFalsely : Prop := fnExactSeenDotsRow.holds Try.pinned (OpenSpec.ofChange fnExactSeenDotsWrong)

/-- 'laws.FnExactHiddenIn': WHATEVER THE INPUT: true; the input reads as it did. -/
def fnExactHiddenInSpec : ChangeSpec := { name := "fnExactHiddenIn", fn := fun _ => fun
  | [d1, d2, d3] => { results := [.lit (.bool true)], args := [d1, d2, d3] }
  | _ => none }
def fnExactHiddenInRow : OpenClaim := { program := "ytheeehjgmifclaa", sum := "0756ecbeb4c3a009216e50d2a7388713a68ff1957e8a90b6b56699098925f328", func := "loop.example/g01340/laws.FnExactHiddenIn", spec := "fnExactHiddenIn", unfollowed := true, recurses := true, apart := false }
def FnExactHiddenInSaid : Prop := fnExactHiddenInRow.holds Try.pinned (OpenSpec.ofChange fnExactHiddenInSpec)

/-- ITS FALSE NEIGHBOUR: 'it returns false'. Refute it at one input. -/
def fnExactHiddenInWrong : ChangeSpec := { name := "fnExactHiddenIn", fn := fun _ => fun
  | [d1, d2, d3] => { results := [.lit (.bool false)], args := [d1, d2, d3] }
  | _ => none }
def FnExactHiddenInWrongFalsely : Prop := fnExactHiddenInRow.holds Try.pinned (OpenSpec.ofChange fnExactHiddenInWrong)

/-- 'laws.FnCels': WHATEVER THE INPUT: true; the input reads as it did. -/
def fnCelsSpec : ChangeSpec := { name := "fnCels", fn := fun _ => fun
  | [d1, d2] => { results := [.lit (.bool true)], args := [d1, d2] }
  | _ => none }
def fnCelsRow : OpenClaim := { program := "ytheeehjgmifclaa", sum := "0756ecbeb4c3a009216e50d2a7388713a68ff1957e8a90b6b56699098925f328", func := "loop.example/g01340/laws.FnCels", spec := "fnCels", inPlace := ["internal/abi.NoEscape"], unfollowed := true, recurses := true, apart := false }
def FnCelsSaid : Prop := fnCelsRow.holds Try.pinned (OpenSpec.ofChange fnCelsSpec)

/-- ITS FALSE NEIGHBOUR: 'it returns false'. Refute it at one input. -/
def fnCelsWrong : ChangeSpec := { name := "fnCels", fn := fun _ => fun
  | [d1, d2] => { results := [.lit (.bool false)], args := [d1, d2] }
  | _ => none }
def FnCelsWrongFalsely : Prop := fnCelsRow.holds Try.pinned (OpenSpec.ofChange fnCelsWrong)

/-- 'laws.FnExactCelText': WHATEVER THE INPUT: true; the input reads as it did. -/
def fnExactCelTextSpec : ChangeSpec := { name := "fnExactCelText", fn := fun _ => fun
  | [d] => { results := [.lit (.bool true)], args := [d] }
  | _ => none }
def fnExactCelTextRow : OpenClaim := { program := "ytheeehjgmifclaa", sum := "0756ecbeb4c3a009216e50d2a7388713a68ff1957e8a90b6b56699098925f328", func := "loop.example/g01340/laws.FnExactCelText", spec := "fnExactCelText", inPlace := ["internal/abi.NoEscape"], unfollowed := true, recurses := true, apart := false }
def FnExactCelTextSaid : Prop := fnExactCelTextRow.holds Try.pinned (OpenSpec.ofChange fnExactCelTextSpec)

/-- ITS FALSE NEIGHBOUR: 'it returns false'. Refute it at one input. -/
def fnExactCelTextWrong : ChangeSpec := { name := "fnExactCelText", fn := fun _ => fun
  | [d] => { results := [.lit (.bool false)], args := [d] }
  | _ => none }
def FnExactCelTextWrongFalsely : Prop := fnExactCelTextRow.holds Try.pinned (OpenSpec.ofChange fnExactCelTextWrong)

/-- 'laws.FnExactReadCel': WHATEVER THE INPUT: true; the input reads as it did. -/
def fnExactReadCelSpec : ChangeSpec := { name := "fnExactReadCel", fn := fun _ => fun
  | [d] => { results := [.lit (.bool true)], args := [d] }
  | _ => none }
def fnExactReadCelRow : OpenClaim := { program := "ytheeehjgmifclaa", sum := "0756ecbeb4c3a009216e50d2a7388713a68ff1957e8a90b6b56699098925f328", func := "loop.example/g01340/laws.FnExactReadCel", spec := "fnExactReadCel", inPlace := ["internal/abi.NoEscape"], unfollowed := true, recurses := true, apart := false }
def FnExactReadCelSaid : Prop := fnExactReadCelRow.holds Try.pinned (OpenSpec.ofChange fnExactReadCelSpec)

/-- ITS FALSE NEIGHBOUR: 'it returns false'. Refute it at one input. -/
def fnExactReadCelWrong : ChangeSpec := { name := "fnExactReadCel", fn := fun _ => fun
  | [d] => { results := [.lit (.bool false)], args := [d] }
  | _ => none }
def FnExactReadCelWrongFalsely : Prop := fnExactReadCelRow.holds Try.pinned (OpenSpec.ofChange fnExactReadCelWrong)

/- THE SECOND FORM. 'bulk': how many values and letters a reading holds, each counted each time it is reached (what is shared counts as often as it is met; a slice's spare places count too). A statement '..UptoSaid' is the law's where the arguments, and the package variables that the reading takes, are together of bulk at most 1048576: NARROWER than '..Said'. Prove '..Said' where nothing that the law and all that it calls make is longer than what came in: it says more and counts as full. Else prove '..UptoSaid'. A law counts once. -/
mutual
def uptoBulk {H : Type} : DataW H → Nat
  | .lit (.string bytes) => bytes.length + 1
  | .lit _ => 1
  | .nil => 1
  | .ptr d => uptoBulk d + 1
  | .slice elems spare => uptoBulkAll elems + uptoBulkAll spare + 1
  | .agg parts => uptoBulkAll parts + 1
  | .iface _ d => uptoBulk d + 1
  | .map entries => uptoBulkEntries entries + 1
  | .held _ => 1
def uptoBulkAll {H : Type} : List (DataW H) → Nat
  | [] => 0
  | d :: r => uptoBulk d + uptoBulkAll r
def uptoBulkEntries {H : Type} : List (Lit × DataW H) → Nat
  | [] => 0
  | x :: r => uptoBulkEntry x + uptoBulkEntries r
def uptoBulkEntry {H : Type} : Lit × DataW H → Nat
  | (.string bytes, d) => bytes.length + uptoBulk d + 1
  | (_, d) => uptoBulk d + 1
 end
def uptoSmall : (H : Type) → List (DataW H) → Bool := fun _ ds => decide (uptoBulkAll ds ≤ 1048576)
def OpenSpec.upto (s : _root_.Go.ChangeSpec) : _root_.Go.OpenSpec := { _root_.Go.OpenSpec.ofChange s with cond := some uptoSmall }

/-- 'laws.FnExactDropLayer', WHERE WHAT IT READS IS OF BULK AT MOST 1048576: true; the input reads as it did. -/
def fnExactDropLayerUptoRow : OpenClaim := { program := "ytheeehjgmifclaa", sum := "0756ecbeb4c3a009216e50d2a7388713a68ff1957e8a90b6b56699098925f328", func := "loop.example/g01340/laws.FnExactDropLayer", spec := "fnExactDropLayer", unfollowed := true, recurses := true, apart := false, narrowed := true }
def FnExactDropLayerUptoSaid : Prop := fnExactDropLayerUptoRow.holds Try.pinned (OpenSpec.upto fnExactDropLayerSpec)

/-- 'laws.FnExactAddLayer', WHERE WHAT IT READS IS OF BULK AT MOST 1048576: true; the input reads as it did. -/
def fnExactAddLayerUptoRow : OpenClaim := { program := "ytheeehjgmifclaa", sum := "0756ecbeb4c3a009216e50d2a7388713a68ff1957e8a90b6b56699098925f328", func := "loop.example/g01340/laws.FnExactAddLayer", spec := "fnExactAddLayer", unfollowed := true, recurses := true, apart := false, narrowed := true }
def FnExactAddLayerUptoSaid : Prop := fnExactAddLayerUptoRow.holds Try.pinned (OpenSpec.upto fnExactAddLayerSpec)

/-- 'laws.FnExactRaiseLayer', WHERE WHAT IT READS IS OF BULK AT MOST 1048576: true; the input reads as it did. -/
def fnExactRaiseLayerUptoRow : OpenClaim := { program := "ytheeehjgmifclaa", sum := "0756ecbeb4c3a009216e50d2a7388713a68ff1957e8a90b6b56699098925f328", func := "loop.example/g01340/laws.FnExactRaiseLayer", spec := "fnExactRaiseLayer", unfollowed := true, recurses := true, apart := false, narrowed := true }
def FnExactRaiseLayerUptoSaid : Prop := fnExactRaiseLayerUptoRow.holds Try.pinned (OpenSpec.upto fnExactRaiseLayerSpec)

/-- 'laws.FnExactFlattenScene', WHERE WHAT IT READS IS OF BULK AT MOST 1048576: true; the input reads as it did. -/
def fnExactFlattenSceneUptoRow : OpenClaim := { program := "ytheeehjgmifclaa", sum := "0756ecbeb4c3a009216e50d2a7388713a68ff1957e8a90b6b56699098925f328", func := "loop.example/g01340/laws.FnExactFlattenScene", spec := "fnExactFlattenScene", unfollowed := true, recurses := true, apart := false, narrowed := true }
def FnExactFlattenSceneUptoSaid : Prop := fnExactFlattenSceneUptoRow.holds Try.pinned (OpenSpec.upto fnExactFlattenSceneSpec)

/-- 'laws.FnExactShowScene', WHERE WHAT IT READS IS OF BULK AT MOST 1048576: true; the input reads as it did. -/
def fnExactShowSceneUptoRow : OpenClaim := { program := "ytheeehjgmifclaa", sum := "0756ecbeb4c3a009216e50d2a7388713a68ff1957e8a90b6b56699098925f328", func := "loop.example/g01340/laws.FnExactShowScene", spec := "fnExactShowScene", unfollowed := true, recurses := true, apart := false, narrowed := true }
def FnExactShowSceneUptoSaid : Prop := fnExactShowSceneUptoRow.holds Try.pinned (OpenSpec.upto fnExactShowSceneSpec)

/-- 'laws.FnExactLayerAt', WHERE WHAT IT READS IS OF BULK AT MOST 1048576: true; the input reads as it did. -/
def fnExactLayerAtUptoRow : OpenClaim := { program := "ytheeehjgmifclaa", sum := "0756ecbeb4c3a009216e50d2a7388713a68ff1957e8a90b6b56699098925f328", func := "loop.example/g01340/laws.FnExactLayerAt", spec := "fnExactLayerAt", unfollowed := true, recurses := true, apart := false, narrowed := true }
def FnExactLayerAtUptoSaid : Prop := fnExactLayerAtUptoRow.holds Try.pinned (OpenSpec.upto fnExactLayerAtSpec)

/-- 'laws.FnExactCanSwap', WHERE WHAT IT READS IS OF BULK AT MOST 1048576: true; the input reads as it did. -/
def fnExactCanSwapUptoRow : OpenClaim := { program := "ytheeehjgmifclaa", sum := "0756ecbeb4c3a009216e50d2a7388713a68ff1957e8a90b6b56699098925f328", func := "loop.example/g01340/laws.FnExactCanSwap", spec := "fnExactCanSwap", unfollowed := true, recurses := true, apart := false, narrowed := true }
def FnExactCanSwapUptoSaid : Prop := fnExactCanSwapUptoRow.holds Try.pinned (OpenSpec.upto fnExactCanSwapSpec)

/-- 'laws.FnExactSeenDots', WHERE WHAT IT READS IS OF BULK AT MOST 1048576: true; the input reads as it did. -/
def fnExactSeenDotsUptoRow : OpenClaim := { program := "ytheeehjgmifclaa", sum := "0756ecbeb4c3a009216e50d2a7388713a68ff1957e8a90b6b56699098925f328", func := "loop.example/g01340/laws.FnExactSeenDots", spec := "fnExactSeenDots", unfollowed := true, recurses := true, apart := false, narrowed := true }
def FnExactSeenDotsUptoSaid : Prop := fnExactSeenDotsUptoRow.holds Try.pinned (OpenSpec.upto fnExactSeenDotsSpec)

/-- 'laws.FnExactHiddenIn', WHERE WHAT IT READS IS OF BULK AT MOST 1048576: true; the input reads as it did. -/
def fnExactHiddenInUptoRow : OpenClaim := { program := "ytheeehjgmifclaa", sum := "0756ecbeb4c3a009216e50d2a7388713a68ff1957e8a90b6b56699098925f328", func := "loop.example/g01340/laws.FnExactHiddenIn", spec := "fnExactHiddenIn", unfollowed := true, recurses := true, apart := false, narrowed := true }
def FnExactHiddenInUptoSaid : Prop := fnExactHiddenInUptoRow.holds Try.pinned (OpenSpec.upto fnExactHiddenInSpec)

/-- 'laws.FnCels', WHERE WHAT IT READS IS OF BULK AT MOST 1048576: true; the input reads as it did. -/
def fnCelsUptoRow : OpenClaim := { program := "ytheeehjgmifclaa", sum := "0756ecbeb4c3a009216e50d2a7388713a68ff1957e8a90b6b56699098925f328", func := "loop.example/g01340/laws.FnCels", spec := "fnCels", inPlace := ["internal/abi.NoEscape"], unfollowed := true, recurses := true, apart := false, narrowed := true }
def FnCelsUptoSaid : Prop := fnCelsUptoRow.holds Try.pinned (OpenSpec.upto fnCelsSpec)

/-- 'laws.FnExactCelText', WHERE WHAT IT READS IS OF BULK AT MOST 1048576: true; the input reads as it did. -/
def fnExactCelTextUptoRow : OpenClaim := { program := "ytheeehjgmifclaa", sum := "0756ecbeb4c3a009216e50d2a7388713a68ff1957e8a90b6b56699098925f328", func := "loop.example/g01340/laws.FnExactCelText", spec := "fnExactCelText", inPlace := ["internal/abi.NoEscape"], unfollowed := true, recurses := true, apart := false, narrowed := true }
def FnExactCelTextUptoSaid : Prop := fnExactCelTextUptoRow.holds Try.pinned (OpenSpec.upto fnExactCelTextSpec)

/-- 'laws.FnExactReadCel', WHERE WHAT IT READS IS OF BULK AT MOST 1048576: true; the input reads as it did. -/
def fnExactReadCelUptoRow : OpenClaim := { program := "ytheeehjgmifclaa", sum := "0756ecbeb4c3a009216e50d2a7388713a68ff1957e8a90b6b56699098925f328", func := "loop.example/g01340/laws.FnExactReadCel", spec := "fnExactReadCel", inPlace := ["internal/abi.NoEscape"], unfollowed := true, recurses := true, apart := false, narrowed := true }
def FnExactReadCelUptoSaid : Prop := fnExactReadCelUptoRow.holds Try.pinned (OpenSpec.upto fnExactReadCelSpec)

end Rows
end Go.Proofs.Ytheeehjgmifclaa
