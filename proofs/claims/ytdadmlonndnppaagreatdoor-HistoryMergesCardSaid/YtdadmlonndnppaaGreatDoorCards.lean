/-
  DERIVED. GIVEN WITH THE SEED: THE CARDS: each row of YtdadmlonndnppaaGreatDoorRows.lean that lists a variable, with what it lists TIED to the program's text (the seventh form; the later family's looks); each row that meets fmt, with fmt's text TOLD by the authors' own Lean function (tested against real Go, not proved from fmt's source: count such statements apart). THE CARD IS WHAT COUNTS. Prove the row's statement (the work); the ties are given (YtdadmlonndnppaaGreatDoorTie.lean); close each card by the builder's one call (the guide's Derived/Test/ToyasCard.lean, 'card_holds'). Laid BY PROGRAM, IN A SANDBOX (cutbox-door.mjs). By AI agents, Wed Nov 11 2026. No macro, syntax, notation, axiom, sorry.
-/
import Derived.Test.YtdadmlonndnppaaGreatDoorRows
import GoSem.ClaimSeven
namespace Go.Proofs.YtdadmlonndnppaaGreatDoor
namespace Rows

/-- THE TIED CARD OF 'skaldlaw44.HistoryMerges'. -/
def historyMergesCard : Claim7 := { stood := { row := historyMergesRow, standIns := [], harness := (true, "927bad0403fa07bc5bac52b3b3d5fed3e33b5b4d96b552e5f973806d386a5172"), looks := false }, kinds := [], alts := [], laidByText := true, laidKinds := [.data, .data, .data, .data, .widerDeep, .pinned], laidTests := true, laidLooks := .later }
def HistoryMergesCardSaid : Prop := Claim7.holds Tryz.pinned (.plain (OpenSpec.ofChange historyMergesSpec)) historyMergesCard

/-- THE TIED CARD OF 'skaldlaw44.HistoryOrders'. -/
def historyOrdersCard : Claim7 := { stood := { row := historyOrdersRow, standIns := [], harness := (true, "927bad0403fa07bc5bac52b3b3d5fed3e33b5b4d96b552e5f973806d386a5172"), looks := false }, kinds := [], alts := [], laidByText := true, laidKinds := [.data, .data, .data, .data, .widerDeep, .pinned], laidTests := true, laidLooks := .later }
def HistoryOrdersCardSaid : Prop := Claim7.holds Tryz.pinned (.plain (OpenSpec.ofChange historyOrdersSpec)) historyOrdersCard

/-- THE TIED CARD OF 'skaldlaw44.HistoryKnown'. -/
def historyKnownCard : Claim7 := { stood := { row := historyKnownRow, standIns := [], harness := (true, "927bad0403fa07bc5bac52b3b3d5fed3e33b5b4d96b552e5f973806d386a5172"), looks := false }, kinds := [], alts := [], laidByText := true, laidKinds := [.data, .data, .data, .data, .widerDeep, .pinned], laidTests := true, laidLooks := .later }
def HistoryKnownCardSaid : Prop := Claim7.holds Tryz.pinned (.plain (OpenSpec.ofChange historyKnownSpec)) historyKnownCard

/-- THE SECOND FORM's CARD OF 'skaldlaw44.HistoryMerges'. -/
def historyMergesUptoCard : Claim7 := { stood := { row := historyMergesUptoRow, standIns := [], harness := (true, "927bad0403fa07bc5bac52b3b3d5fed3e33b5b4d96b552e5f973806d386a5172"), looks := false }, kinds := [], alts := [], laidByText := true, laidKinds := [.data, .data, .data, .data, .widerDeep, .pinned], laidTests := true, laidLooks := .later }
def HistoryMergesUptoCardSaid : Prop := Claim7.holds Tryz.pinned (.plain (OpenSpec.upto historyMergesSpec)) historyMergesUptoCard

/-- THE SECOND FORM's CARD OF 'skaldlaw44.HistoryOrders'. -/
def historyOrdersUptoCard : Claim7 := { stood := { row := historyOrdersUptoRow, standIns := [], harness := (true, "927bad0403fa07bc5bac52b3b3d5fed3e33b5b4d96b552e5f973806d386a5172"), looks := false }, kinds := [], alts := [], laidByText := true, laidKinds := [.data, .data, .data, .data, .widerDeep, .pinned], laidTests := true, laidLooks := .later }
def HistoryOrdersUptoCardSaid : Prop := Claim7.holds Tryz.pinned (.plain (OpenSpec.upto historyOrdersSpec)) historyOrdersUptoCard

/-- THE SECOND FORM's CARD OF 'skaldlaw44.HistoryKnown'. -/
def historyKnownUptoCard : Claim7 := { stood := { row := historyKnownUptoRow, standIns := [], harness := (true, "927bad0403fa07bc5bac52b3b3d5fed3e33b5b4d96b552e5f973806d386a5172"), looks := false }, kinds := [], alts := [], laidByText := true, laidKinds := [.data, .data, .data, .data, .widerDeep, .pinned], laidTests := true, laidLooks := .later }
def HistoryKnownUptoCardSaid : Prop := Claim7.holds Tryz.pinned (.plain (OpenSpec.upto historyKnownSpec)) historyKnownUptoCard
end Rows
end Go.Proofs.YtdadmlonndnppaaGreatDoor
