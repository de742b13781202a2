/-
  DERIVED. GIVEN WITH THE SEED: THE CARDS: each row of YthfkhidmeeajfaaGreatDoorRows.lean that lists a variable, with what it lists TIED to the program's text (the seventh form; the later family's looks); each row that meets fmt, with fmt's text TOLD by the authors' own Lean function (tested against real Go, not proved from fmt's source: count such statements apart). THE CARD IS WHAT COUNTS. Prove the row's statement (the work); the ties are given (YthfkhidmeeajfaaGreatDoorTie.lean); close each card by the builder's one call (the guide's Derived/Test/ToyasCard.lean, 'card_holds'). Laid BY PROGRAM, IN A SANDBOX (cutbox-door.mjs). By AI agents, Wed Nov 11 2026. No macro, syntax, notation, axiom, sorry.
-/
import Derived.Test.YthfkhidmeeajfaaGreatDoorRows
import GoSem.ClaimSeven
namespace Go.Proofs.YthfkhidmeeajfaaGreatDoor
namespace Rows

/-- THE TIED CARD OF 'skaldlaw42.PlayTexts'. -/
def playTextsCard : Claim7 := { stood := { row := playTextsRow, standIns := [], harness := (true, "be533c4af5f0b0940cccbf3951bd793459506148599bc4c33891df39a2d37647"), looks := true }, kinds := [], alts := [], laidByText := true, laidKinds := [.data, .data, .data, .data, .data, .data, .data, .funcs, .pinned], laidTests := true, laidLooks := .later }
def PlayTextsCardSaid : Prop := Claim7.holds Tryz.pinned (.plain (OpenSpec.ofChange playTextsSpec)) playTextsCard

/-- THE TIED CARD OF 'skaldlaw42.PlayLines'. -/
def playLinesCard : Claim7 := { stood := { row := playLinesRow, standIns := [], harness := (true, "be533c4af5f0b0940cccbf3951bd793459506148599bc4c33891df39a2d37647"), looks := true }, kinds := [], alts := [], laidByText := true, laidKinds := [.data, .data, .data, .data, .data, .data, .data, .funcs, .pinned], laidTests := true, laidLooks := .later }
def PlayLinesCardSaid : Prop := Claim7.holds Tryz.pinned (.plain (OpenSpec.ofChange playLinesSpec)) playLinesCard

/-- THE SECOND FORM's CARD OF 'skaldlaw42.PlayTexts'. -/
def playTextsUptoCard : Claim7 := { stood := { row := playTextsUptoRow, standIns := [], harness := (true, "be533c4af5f0b0940cccbf3951bd793459506148599bc4c33891df39a2d37647"), looks := true }, kinds := [], alts := [], laidByText := true, laidKinds := [.data, .data, .data, .data, .data, .data, .data, .funcs, .pinned], laidTests := true, laidLooks := .later }
def PlayTextsUptoCardSaid : Prop := Claim7.holds Tryz.pinned (.plain (OpenSpec.upto playTextsSpec)) playTextsUptoCard

/-- THE SECOND FORM's CARD OF 'skaldlaw42.PlayLines'. -/
def playLinesUptoCard : Claim7 := { stood := { row := playLinesUptoRow, standIns := [], harness := (true, "be533c4af5f0b0940cccbf3951bd793459506148599bc4c33891df39a2d37647"), looks := true }, kinds := [], alts := [], laidByText := true, laidKinds := [.data, .data, .data, .data, .data, .data, .data, .funcs, .pinned], laidTests := true, laidLooks := .later }
def PlayLinesUptoCardSaid : Prop := Claim7.holds Tryz.pinned (.plain (OpenSpec.upto playLinesSpec)) playLinesUptoCard
end Rows
end Go.Proofs.YthfkhidmeeajfaaGreatDoor
