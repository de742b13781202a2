/-
  DERIVED. GIVEN WITH THE SEED: THE CARDS: each row of YthhodoinajbgmaaGreatDoorRows.lean that lists a variable, with what it lists TIED to the program's text (the seventh form; the later family's looks); each row that meets fmt, with fmt's text TOLD by the authors' own Lean function (tested against real Go, not proved from fmt's source: count such statements apart). THE CARD IS WHAT COUNTS. Prove the row's statement (the work); the ties are given (YthhodoinajbgmaaGreatDoorTie.lean); close each card by the builder's one call (the guide's Derived/Test/ToyasCard.lean, 'card_holds'). Laid BY PROGRAM, IN A SANDBOX (cutbox-door.mjs). By AI agents, Wed Nov 11 2026. No macro, syntax, notation, axiom, sorry.
-/
import Derived.Test.YthhodoinajbgmaaGreatDoorRows
import GoSem.ClaimSeven
namespace Go.Proofs.YthhodoinajbgmaaGreatDoor
namespace Rows

/-- THE TIED CARD OF 'skaldlaw45.FairBounds'. -/
def fairBoundsCard : Claim7 := { stood := { row := fairBoundsRow, standIns := [], harness := (true, "19672cc32d5110318091ecea63c8ba933132dfc297756c434c3c498229f4eb7d"), looks := true }, kinds := [], alts := [], laidByText := true, laidKinds := [.data, .data, .data, .data, .data, .data, .data, .funcs, .pinned], laidTests := true, laidLooks := .later }
def FairBoundsCardSaid : Prop := Claim7.holds Tryz.pinned (.plain (OpenSpec.ofChange fairBoundsSpec)) fairBoundsCard

/-- THE SECOND FORM's CARD OF 'skaldlaw45.FairBounds'. -/
def fairBoundsUptoCard : Claim7 := { stood := { row := fairBoundsUptoRow, standIns := [], harness := (true, "19672cc32d5110318091ecea63c8ba933132dfc297756c434c3c498229f4eb7d"), looks := true }, kinds := [], alts := [], laidByText := true, laidKinds := [.data, .data, .data, .data, .data, .data, .data, .funcs, .pinned], laidTests := true, laidLooks := .later }
def FairBoundsUptoCardSaid : Prop := Claim7.holds Tryz.pinned (.plain (OpenSpec.upto fairBoundsSpec)) fairBoundsUptoCard
end Rows
end Go.Proofs.YthhodoinajbgmaaGreatDoor
