/-
  DERIVED. GIVEN WITH THE SEED: THE CARDS: each row of YtnhnepmjdgfelaaGreatDoorRows.lean that lists a variable, with what it lists TIED to the program's text (the seventh form; the later family's looks); each row that meets fmt, with fmt's text TOLD by the authors' own Lean function (tested against real Go, not proved from fmt's source: count such statements apart). THE CARD IS WHAT COUNTS. Prove the row's statement (the work); the ties are given (YtnhnepmjdgfelaaGreatDoorTie.lean); close each card by the builder's one call (the guide's Derived/Test/ToyasCard.lean, 'card_holds'). Laid BY PROGRAM, IN A SANDBOX (cutbox-door.mjs). By AI agents, Wed Nov 11 2026. No macro, syntax, notation, axiom, sorry.
-/
import Derived.Test.YtnhnepmjdgfelaaGreatDoorRows
import GoSem.ClaimSeven
namespace Go.Proofs.YtnhnepmjdgfelaaGreatDoor
namespace Rows

/-- THE TIED CARD OF 'skaldlaw42.PlayRandoms'. -/
def playRandomsCard : Claim7 := { stood := { row := playRandomsRow, standIns := [], harness := (true, "5fb6f5fb6e5ee852b695e0241cb3e0a8af36814d9d2a7009461f997ecc2c0fbc"), looks := true }, kinds := [], alts := [], laidByText := true, laidKinds := [.data, .data, .data, .data, .data, .data, .data, .funcs, .pinned], laidTests := true, laidLooks := .later }
def PlayRandomsCardSaid : Prop := Claim7.holds Tryz.pinned (.plain (OpenSpec.ofChange playRandomsSpec)) playRandomsCard

/-- THE SECOND FORM's CARD OF 'skaldlaw42.PlayRandoms'. -/
def playRandomsUptoCard : Claim7 := { stood := { row := playRandomsUptoRow, standIns := [], harness := (true, "5fb6f5fb6e5ee852b695e0241cb3e0a8af36814d9d2a7009461f997ecc2c0fbc"), looks := true }, kinds := [], alts := [], laidByText := true, laidKinds := [.data, .data, .data, .data, .data, .data, .data, .funcs, .pinned], laidTests := true, laidLooks := .later }
def PlayRandomsUptoCardSaid : Prop := Claim7.holds Tryz.pinned (.plain (OpenSpec.upto playRandomsSpec)) playRandomsUptoCard
end Rows
end Go.Proofs.YtnhnepmjdgfelaaGreatDoor
