/-
  DERIVED. GIVEN WITH THE SEED: THE CARDS: each row of YthkfnldaeihmiaaGreatDoorRows.lean that lists a variable, with what it lists TIED to the program's text (the seventh form; the later family's looks); each row that meets fmt, with fmt's text TOLD by the authors' own Lean function (tested against real Go, not proved from fmt's source: count such statements apart). THE CARD IS WHAT COUNTS. Prove the row's statement (the work); the ties are given (YthkfnldaeihmiaaGreatDoorTie.lean); close each card by the builder's one call (the guide's Derived/Test/ToyasCard.lean, 'card_holds'). Laid BY PROGRAM, IN A SANDBOX (cutbox-door.mjs). By AI agents, Wed Nov 11 2026. No macro, syntax, notation, axiom, sorry.
-/
import Derived.Test.YthkfnldaeihmiaaGreatDoorRows
import GoSem.ClaimSeven
namespace Go.Proofs.YthkfnldaeihmiaaGreatDoor
namespace Rows

/-- THE TIED CARD OF 'skaldlaw45.FairGrows'. -/
def fairGrowsCard : Claim7 := { stood := { row := fairGrowsRow, standIns := [], harness := (true, "8119cb4c94da66ad23e4a8bd344107cc28469602a4a317281fe3e03c09cbc61b"), looks := true }, kinds := [], alts := [], laidByText := true, laidKinds := [.data, .data, .data, .data, .data, .data, .data, .funcs, .pinned], laidTests := true, laidLooks := .later }
def FairGrowsCardSaid : Prop := Claim7.holds Tryz.pinned (.plain (OpenSpec.ofChange fairGrowsSpec)) fairGrowsCard

/-- THE SECOND FORM's CARD OF 'skaldlaw45.FairGrows'. -/
def fairGrowsUptoCard : Claim7 := { stood := { row := fairGrowsUptoRow, standIns := [], harness := (true, "8119cb4c94da66ad23e4a8bd344107cc28469602a4a317281fe3e03c09cbc61b"), looks := true }, kinds := [], alts := [], laidByText := true, laidKinds := [.data, .data, .data, .data, .data, .data, .data, .funcs, .pinned], laidTests := true, laidLooks := .later }
def FairGrowsUptoCardSaid : Prop := Claim7.holds Tryz.pinned (.plain (OpenSpec.upto fairGrowsSpec)) fairGrowsUptoCard
end Rows
end Go.Proofs.YthkfnldaeihmiaaGreatDoor
