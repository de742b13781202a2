/-
  DERIVED. GIVEN WITH THE SEED: THE CARDS: each row of YtdnkpdgncgjilaaGreatDoorRows.lean that lists a variable, with what it lists TIED to the program's text (the seventh form; the later family's looks); each row that meets fmt, with fmt's text TOLD by the authors' own Lean function (tested against real Go, not proved from fmt's source: count such statements apart). THE CARD IS WHAT COUNTS. Prove the row's statement (the work); the ties are given (YtdnkpdgncgjilaaGreatDoorTie.lean); close each card by the builder's one call (the guide's Derived/Test/ToyasCard.lean, 'card_holds'). Laid BY PROGRAM, IN A SANDBOX (cutbox-door.mjs). By AI agents, Wed Nov 11 2026. No macro, syntax, notation, axiom, sorry.
-/
import Derived.Test.YtdnkpdgncgjilaaGreatDoorRows
import GoSem.ClaimSeven
namespace Go.Proofs.YtdnkpdgncgjilaaGreatDoor
namespace Rows

/-- THE TIED CARD OF 'skaldlaw40.ClusterNil'. -/
def clusterNilCard : Claim7 := { stood := { row := clusterNilRow, standIns := [], harness := (true, "65c3164d21312d6fdb56a341d5b27cd948e876b03a96598448e0feefba132829"), looks := true }, kinds := [], alts := [], laidByText := true, laidKinds := [.data, .data, .data, .data, .data, .data, .data, .funcs, .pinned], laidTests := true, laidLooks := .later }
def ClusterNilCardSaid : Prop := Claim7.holds Tryz.pinned (.plain (OpenSpec.ofChange clusterNilSpec)) clusterNilCard

/-- THE SECOND FORM's CARD OF 'skaldlaw40.ClusterNil'. -/
def clusterNilUptoCard : Claim7 := { stood := { row := clusterNilUptoRow, standIns := [], harness := (true, "65c3164d21312d6fdb56a341d5b27cd948e876b03a96598448e0feefba132829"), looks := true }, kinds := [], alts := [], laidByText := true, laidKinds := [.data, .data, .data, .data, .data, .data, .data, .funcs, .pinned], laidTests := true, laidLooks := .later }
def ClusterNilUptoCardSaid : Prop := Claim7.holds Tryz.pinned (.plain (OpenSpec.upto clusterNilSpec)) clusterNilUptoCard
end Rows
end Go.Proofs.YtdnkpdgncgjilaaGreatDoor
