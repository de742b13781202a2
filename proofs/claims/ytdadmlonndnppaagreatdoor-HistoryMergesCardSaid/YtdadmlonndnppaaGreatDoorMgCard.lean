/-
  HistoryMerges' tied card: the call returns true for every input and leaves what stood as it was; the listed variables are tied to the program's text.
-/
import Derived.Test.YtdadmlonndnppaaGreatDoorMgProof
import Derived.Test.YtdadmlonndnppaaGreatDoorTie
import Derived.Test.YtdadmlonndnppaaGreatDoorCards
import Derived.SevenTiedAt
set_option linter.unusedSimpArgs false
set_option linter.unusedVariables false
namespace Go.Proofs.YtdadmlonndnppaaGreatDoor
open Go
set_option maxRecDepth 100000
theorem mgC1 : Rows.historyMergesRow.wfByText (OpenSpec.ofChange Rows.historyMergesSpec) = true := by kernel_rfl
theorem mgC2 : Tryz.pinned.checked.prog.mainIs = some (true, "927bad0403fa07bc5bac52b3b3d5fed3e33b5b4d96b552e5f973806d386a5172".toList) := by kernel_rfl
theorem mgC3 : false = Rows.historyMergesRow.goesBy Tryz.pinned.checked.prog := by kernel_rfl
theorem mgC4 : false = Tryz.pinned.checked.prog.looks [] := by kernel_rfl
theorem mgC5 : Tryz.pinned.checked.prog.wantsStandIn 22 = false := by kernel_rfl
theorem mgC6 : Tryz.pinned.checked.prog.wantsStandIn 23 = false := by kernel_rfl
/-- THE CARD. -/
theorem historyMerges_card : Rows.HistoryMergesCardSaid :=
  Claim7.holds_tied_plain_at .later [] [.data, .data, .data, .data, .widerDeep, .pinned] true (true, "927bad0403fa07bc5bac52b3b3d5fed3e33b5b4d96b552e5f973806d386a5172") false
    mg_holds (fun _ h => by cases h) mgC1 (fun _ h => by cases h) historyMerges_row_tie rfl ⟨rfl, rfl⟩ mgC2 rfl
    (fun f fn hf hfn => by
      obtain rfl : f = 3 := Option.some.inj (mg_named.symm.trans hf) |>.symm
      obtain rfl : fn = Tryz.f3 := (Option.some.inj (Tryz.func3.symm.trans hfn)).symm
      exact ⟨mgC4, fun j t ht => by
        rw [Tryz.params3] at ht
        match j, ht with
        | 0, ht => simp at ht; subst ht; exact mgC5
        | 1, ht => simp at ht; subst ht; exact mgC6
        | _ + 2, ht => simp at ht⟩)
    mgC3
end Go.Proofs.YtdadmlonndnppaaGreatDoor
