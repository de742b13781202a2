/-
  FairBounds' tied card: the call returns true for every size and leaves what stood as it was; the listed variables are tied to the program's text.
-/
import Derived.Test.YthhodoinajbgmaaGreatDoorFbProof
import Derived.Test.YthhodoinajbgmaaGreatDoorFbR
import Derived.Test.YthhodoinajbgmaaGreatDoorFbS
import Derived.Test.YthhodoinajbgmaaGreatDoorCards
import Derived.SevenTiedAt
set_option linter.unusedSimpArgs false
set_option linter.unusedVariables false
namespace Go.Proofs.YthhodoinajbgmaaGreatDoor
open Go
set_option maxRecDepth 100000
theorem fbC1 : Rows.fairBoundsRow.wfByText (OpenSpec.ofChange Rows.fairBoundsSpec) = true := by kernel_rfl
theorem fbC2 : Tryz.pinned.checked.prog.mainIs = some (true, "19672cc32d5110318091ecea63c8ba933132dfc297756c434c3c498229f4eb7d".toList) := by kernel_rfl
theorem fbC4 : true = Tryz.pinned.checked.prog.looks [] := by kernel_rfl
theorem fbC5 : Tryz.pinned.checked.prog.wantsStandIn 23 = false := by kernel_rfl
/-- THE CARD. -/
theorem fairBounds_card : Rows.FairBoundsCardSaid :=
  Claim7.holds_tied_plain_at .later [] [.data, .data, .data, .data, .data, .data, .data, .funcs, .pinned] true (true, "19672cc32d5110318091ecea63c8ba933132dfc297756c434c3c498229f4eb7d") true
    fb_holds (fun _ h => by cases h) fbC1 (fun _ h => by cases h) fb_row_tie rfl ⟨rfl, rfl⟩ fbC2 rfl
    (fun f fn hf hfn => by
      obtain rfl : f = 3 := Option.some.inj (fb_named.symm.trans hf) |>.symm
      obtain rfl : fn = Tryz.f3 := (Option.some.inj (Tryz.func3.symm.trans hfn)).symm
      exact ⟨fbC4, fun j t ht => by
        rw [Tryz.params3] at ht
        match j, ht with
        | 0, ht => simp at ht; subst ht; exact fbC5
        | _ + 1, ht => simp at ht⟩)
    fbC3
end Go.Proofs.YthhodoinajbgmaaGreatDoor
