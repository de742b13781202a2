/-
  DERIVED. GIVEN WITH THE SEED: THE CARDS: each row of YtlmfonchlniloaaGreatDoorRows.lean that lists a variable, with what it lists TIED to the program's text (the seventh form; the later family's looks); each row that meets fmt, with fmt's text TOLD by the authors' own Lean function (tested against real Go, not proved from fmt's source: count such statements apart). THE CARD IS WHAT COUNTS. Prove the row's statement (the work); the ties are given (YtlmfonchlniloaaGreatDoorTie.lean); close each card by the builder's one call (the guide's Derived/Test/ToyasCard.lean, 'card_holds'). Laid BY PROGRAM, IN A SANDBOX (cutbox-door.mjs). By AI agents, Wed Nov 11 2026. No macro, syntax, notation, axiom, sorry.
-/
import Derived.Test.YtlmfonchlniloaaGreatDoorRows
import GoSem.ClaimSeven
namespace Go.Proofs.YtlmfonchlniloaaGreatDoor
namespace Rows

/-- THE TIED CARD OF 'skaldlaw45.FairRefuses'. -/
def fairRefusesCard : Claim7 := { stood := { row := fairRefusesRow, standIns := [], harness := (true, "a012812392cf012c5310354e80249db725bcc17d4cb8a006c5d7a9283120cf84"), looks := true }, kinds := [], alts := [], laidByText := true, laidKinds := [.data, .data, .data, .data, .data, .data, .data, .funcs, .pinned], laidTests := true, laidLooks := .later }
def FairRefusesCardSaid : Prop := Claim7.holds Tryz.pinned (.plain (OpenSpec.ofChange fairRefusesSpec)) fairRefusesCard

/-- THE SECOND FORM's CARD OF 'skaldlaw45.FairRefuses'. -/
def fairRefusesUptoCard : Claim7 := { stood := { row := fairRefusesUptoRow, standIns := [], harness := (true, "a012812392cf012c5310354e80249db725bcc17d4cb8a006c5d7a9283120cf84"), looks := true }, kinds := [], alts := [], laidByText := true, laidKinds := [.data, .data, .data, .data, .data, .data, .data, .funcs, .pinned], laidTests := true, laidLooks := .later }
def FairRefusesUptoCardSaid : Prop := Claim7.holds Tryz.pinned (.plain (OpenSpec.upto fairRefusesSpec)) fairRefusesUptoCard
end Rows
end Go.Proofs.YtlmfonchlniloaaGreatDoor
