/-
  DERIVED. GIVEN WITH THE SEED: THE CARDS: each row of YtaekjojblkhfdaaGreatDoorRows.lean that lists a variable, with what it lists TIED to the program's text (the seventh form; the later family's looks); each row that meets fmt, with fmt's text TOLD by the authors' own Lean function (tested against real Go, not proved from fmt's source: count such statements apart). THE CARD IS WHAT COUNTS. Prove the row's statement (the work); the ties are given (YtaekjojblkhfdaaGreatDoorTie.lean); close each card by the builder's one call (the guide's Derived/Test/ToyasCard.lean, 'card_holds'). Laid BY PROGRAM, IN A SANDBOX (cutbox-door.mjs). By AI agents, Wed Nov 11 2026. No macro, syntax, notation, axiom, sorry.
-/
import Derived.Test.YtaekjojblkhfdaaGreatDoorRows
import GoSem.ClaimSeven
namespace Go.Proofs.YtaekjojblkhfdaaGreatDoor
namespace Rows

/-- THE TIED CARD OF 'laws.FnPageOrders'. -/
def fnPageOrdersCard : Claim7 := { stood := { row := fnPageOrdersRow, standIns := [], harness := (true, "64277116183184feb45a624ea27e1d37dfa68b5fa69f521eaa3f98f190b843fd"), looks := true }, kinds := [], alts := [], laidByText := true, laidKinds := [.data, .data, .data, .data, .sentinel, .sentinel, .pinned], laidTests := true, laidLooks := .later }
def FnPageOrdersCardSaid : Prop := Claim7.holds Tryz.pinned (.plain (OpenSpec.ofChange fnPageOrdersSpec)) fnPageOrdersCard

/-- THE SECOND FORM's CARD OF 'laws.FnPageOrders'. -/
def fnPageOrdersUptoCard : Claim7 := { stood := { row := fnPageOrdersUptoRow, standIns := [], harness := (true, "64277116183184feb45a624ea27e1d37dfa68b5fa69f521eaa3f98f190b843fd"), looks := true }, kinds := [], alts := [], laidByText := true, laidKinds := [.data, .data, .data, .data, .sentinel, .sentinel, .pinned], laidTests := true, laidLooks := .later }
def FnPageOrdersUptoCardSaid : Prop := Claim7.holds Tryz.pinned (.plain (OpenSpec.upto fnPageOrdersSpec)) fnPageOrdersUptoCard
end Rows
end Go.Proofs.YtaekjojblkhfdaaGreatDoor
