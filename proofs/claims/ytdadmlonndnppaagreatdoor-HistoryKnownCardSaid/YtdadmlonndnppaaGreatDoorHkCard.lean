/-
  HistoryKnown's tied card: the call returns true and leaves what stood as it was; the listed variables are tied to the program's text.
-/
import Derived.Test.YtdadmlonndnppaaGreatDoorHkProof
import Derived.Test.YtdadmlonndnppaaGreatDoorTie
import Derived.Test.YtdadmlonndnppaaGreatDoorCards
import Derived.SevenTiedAt
namespace Go.Proofs.YtdadmlonndnppaaGreatDoor
open Go
set_option maxRecDepth 100000
theorem hkC1 : Rows.historyKnownRow.wfByText (OpenSpec.ofChange Rows.historyKnownSpec) = true := by kernel_rfl
theorem hkC2 : Tryz.pinned.checked.prog.mainIs = some (true, "927bad0403fa07bc5bac52b3b3d5fed3e33b5b4d96b552e5f973806d386a5172".toList) := by kernel_rfl
theorem hkC3 : false = Rows.historyKnownRow.goesBy Tryz.pinned.checked.prog := by kernel_rfl
theorem hkC4 : false = Tryz.pinned.checked.prog.looks [] := by kernel_rfl
/-- THE CARD. -/
theorem historyKnown_card : Rows.HistoryKnownCardSaid :=
  Claim7.holds_tied_plain_at .later [] [.data, .data, .data, .data, .widerDeep, .pinned] true (true, "927bad0403fa07bc5bac52b3b3d5fed3e33b5b4d96b552e5f973806d386a5172") false
    hk_holds (fun _ h => by cases h) hkC1 (fun _ h => by cases h) historyKnown_row_tie rfl ⟨rfl, rfl⟩ hkC2 rfl
    (fun f fn hf hfn => by
      obtain rfl : f = 5 := Option.some.inj (hk_named.symm.trans hf) |>.symm
      obtain rfl : fn = Tryz.f5 := (Option.some.inj (Tryz.func5.symm.trans hfn)).symm
      exact ⟨hkC4, fun j t ht => by
        rw [Tryz.params5] at ht
        simp at ht⟩)
    hkC3
end Go.Proofs.YtdadmlonndnppaaGreatDoor
