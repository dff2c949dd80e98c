/-
  DERIVED. GIVEN WITH THE SEED: THE CARDS: each row of YtpjimhkblldhaaaDoorRows.lean that lists a variable, with what it lists TIED to the program's text (the seventh form; the later family's looks); each row that meets fmt, with fmt's text TOLD by the authors' own Lean function (tested against real Go, not proved from fmt's source: count such statements apart). THE CARD IS WHAT COUNTS. Prove the row's statement (the work); the ties are given (YtpjimhkblldhaaaDoorTie.lean); close each card by the builder's one call (the guide's Derived/Test/ToyasCard.lean, 'card_holds'). Laid BY PROGRAM, IN A SANDBOX (cutbox-door.mjs). By AI agents, Wed Nov 11 2026. No macro, syntax, notation, axiom, sorry.
-/
import Derived.Test.YtpjimhkblldhaaaDoorRows
import GoSem.ClaimSeven
namespace Go.Proofs.YtpjimhkblldhaaaDoor
namespace Rows

/-- THE TIED CARD OF 'laws.FnExactOrderText'. -/
def fnExactOrderTextCard : Claim7 := { stood := { row := fnExactOrderTextRow, standIns := [], harness := (true, "9d9823ad5fd7178ac879168412a5c0ccc7d31ddba9d304e6cdafc3636b96f496"), looks := true }, kinds := [], alts := [], laidByText := true, laidKinds := [.data, .data, .data], laidTests := true, laidLooks := .later }
def FnExactOrderTextCardSaid : Prop := Claim7.holds Tryd.pinned (.plain (OpenSpec.ofChange fnExactOrderTextSpec)) fnExactOrderTextCard

/-- THE TIED CARD OF 'laws.FnExactTrackText'. -/
def fnExactTrackTextCard : Claim7 := { stood := { row := fnExactTrackTextRow, standIns := [], harness := (true, "9d9823ad5fd7178ac879168412a5c0ccc7d31ddba9d304e6cdafc3636b96f496"), looks := true }, kinds := [], alts := [], laidByText := true, laidKinds := [.data, .data, .data], laidTests := true, laidLooks := .later }
def FnExactTrackTextCardSaid : Prop := Claim7.holds Tryd.pinned (.plain (OpenSpec.ofChange fnExactTrackTextSpec)) fnExactTrackTextCard

/-- THE TIED CARD OF 'laws.FnExactReadOrder'. -/
def fnExactReadOrderCard : Claim7 := { stood := { row := fnExactReadOrderRow, standIns := [], harness := (true, "9d9823ad5fd7178ac879168412a5c0ccc7d31ddba9d304e6cdafc3636b96f496"), looks := true }, kinds := [], alts := [], laidByText := true, laidKinds := [.data, .data, .data, .data, .sentinel, .sentinel, .pinned], laidTests := true, laidLooks := .later }
def FnExactReadOrderCardSaid : Prop := Claim7.holds Tryd.pinned (.plain (OpenSpec.ofChange fnExactReadOrderSpec)) fnExactReadOrderCard

/-- THE TIED CARD OF 'laws.FnExactReadTrack'. -/
def fnExactReadTrackCard : Claim7 := { stood := { row := fnExactReadTrackRow, standIns := [], harness := (true, "9d9823ad5fd7178ac879168412a5c0ccc7d31ddba9d304e6cdafc3636b96f496"), looks := true }, kinds := [], alts := [], laidByText := true, laidKinds := [.data, .data, .data, .data, .sentinel, .sentinel, .pinned], laidTests := true, laidLooks := .later }
def FnExactReadTrackCardSaid : Prop := Claim7.holds Tryd.pinned (.plain (OpenSpec.ofChange fnExactReadTrackSpec)) fnExactReadTrackCard

/-- THE SECOND FORM's CARD OF 'laws.FnExactOrderText'. -/
def fnExactOrderTextUptoCard : Claim7 := { stood := { row := fnExactOrderTextUptoRow, standIns := [], harness := (true, "9d9823ad5fd7178ac879168412a5c0ccc7d31ddba9d304e6cdafc3636b96f496"), looks := true }, kinds := [], alts := [], laidByText := true, laidKinds := [.data, .data, .data], laidTests := true, laidLooks := .later }
def FnExactOrderTextUptoCardSaid : Prop := Claim7.holds Tryd.pinned (.plain (OpenSpec.upto fnExactOrderTextSpec)) fnExactOrderTextUptoCard

/-- THE SECOND FORM's CARD OF 'laws.FnExactTrackText'. -/
def fnExactTrackTextUptoCard : Claim7 := { stood := { row := fnExactTrackTextUptoRow, standIns := [], harness := (true, "9d9823ad5fd7178ac879168412a5c0ccc7d31ddba9d304e6cdafc3636b96f496"), looks := true }, kinds := [], alts := [], laidByText := true, laidKinds := [.data, .data, .data], laidTests := true, laidLooks := .later }
def FnExactTrackTextUptoCardSaid : Prop := Claim7.holds Tryd.pinned (.plain (OpenSpec.upto fnExactTrackTextSpec)) fnExactTrackTextUptoCard

/-- THE SECOND FORM's CARD OF 'laws.FnExactReadOrder'. -/
def fnExactReadOrderUptoCard : Claim7 := { stood := { row := fnExactReadOrderUptoRow, standIns := [], harness := (true, "9d9823ad5fd7178ac879168412a5c0ccc7d31ddba9d304e6cdafc3636b96f496"), looks := true }, kinds := [], alts := [], laidByText := true, laidKinds := [.data, .data, .data, .data, .sentinel, .sentinel, .pinned], laidTests := true, laidLooks := .later }
def FnExactReadOrderUptoCardSaid : Prop := Claim7.holds Tryd.pinned (.plain (OpenSpec.upto fnExactReadOrderSpec)) fnExactReadOrderUptoCard

/-- THE SECOND FORM's CARD OF 'laws.FnExactReadTrack'. -/
def fnExactReadTrackUptoCard : Claim7 := { stood := { row := fnExactReadTrackUptoRow, standIns := [], harness := (true, "9d9823ad5fd7178ac879168412a5c0ccc7d31ddba9d304e6cdafc3636b96f496"), looks := true }, kinds := [], alts := [], laidByText := true, laidKinds := [.data, .data, .data, .data, .sentinel, .sentinel, .pinned], laidTests := true, laidLooks := .later }
def FnExactReadTrackUptoCardSaid : Prop := Claim7.holds Tryd.pinned (.plain (OpenSpec.upto fnExactReadTrackSpec)) fnExactReadTrackUptoCard
end Rows
end Go.Proofs.YtpjimhkblldhaaaDoor
