/-
  HistoryOrders' tied card: the call returns true for every input and leaves what stood as it was; the listed variables are tied to the program's text.
-/
import Derived.Test.YtdadmlonndnppaaGreatDoorOrProof
import Derived.Test.YtdadmlonndnppaaGreatDoorTie
import Derived.Test.YtdadmlonndnppaaGreatDoorCards
import Derived.SevenTiedAt
set_option linter.unusedSimpArgs false
set_option linter.unusedVariables false
namespace Go.Proofs.YtdadmlonndnppaaGreatDoor
open Go
set_option maxRecDepth 100000
theorem orC1 : Rows.historyOrdersRow.wfByText (OpenSpec.ofChange Rows.historyOrdersSpec) = true := by kernel_rfl
theorem orC2 : Tryz.pinned.checked.prog.mainIs = some (true, "927bad0403fa07bc5bac52b3b3d5fed3e33b5b4d96b552e5f973806d386a5172".toList) := by kernel_rfl
theorem orC3 : false = Rows.historyOrdersRow.goesBy Tryz.pinned.checked.prog := by kernel_rfl
theorem orC4 : false = Tryz.pinned.checked.prog.looks [] := by kernel_rfl
theorem orC5 : Tryz.pinned.checked.prog.wantsStandIn 22 = false := by kernel_rfl
theorem orC6 : Tryz.pinned.checked.prog.wantsStandIn 23 = false := by kernel_rfl
/-- THE CARD. -/
theorem historyOrders_card : Rows.HistoryOrdersCardSaid :=
  Claim7.holds_tied_plain_at .later [] [.data, .data, .data, .data, .widerDeep, .pinned] true (true, "927bad0403fa07bc5bac52b3b3d5fed3e33b5b4d96b552e5f973806d386a5172") false
    or_holds (fun _ h => by cases h) orC1 (fun _ h => by cases h) historyOrders_row_tie rfl ⟨rfl, rfl⟩ orC2 rfl
    (fun f fn hf hfn => by
      obtain rfl : f = 4 := Option.some.inj (or_named.symm.trans hf) |>.symm
      obtain rfl : fn = Tryz.f4 := (Option.some.inj (Tryz.func4.symm.trans hfn)).symm
      exact ⟨orC4, fun j t ht => by
        rw [Tryz.params4] at ht
        match j, ht with
        | 0, ht => simp at ht; subst ht; exact orC5
        | 1, ht => simp at ht; subst ht; exact orC6
        | _ + 2, ht => simp at ht⟩)
    orC3
end Go.Proofs.YtdadmlonndnppaaGreatDoor
