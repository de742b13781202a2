/-
  FairRefuses' tied card: the call returns true for all arguments and leaves what stood as it was; the listed variables are tied to the program's text.
-/
import Derived.Test.YtlmfonchlniloaaGreatDoorFbProof
import Derived.Test.YtlmfonchlniloaaGreatDoorFbR
import Derived.Test.YtlmfonchlniloaaGreatDoorFbS
import Derived.Test.YtlmfonchlniloaaGreatDoorCards
import Derived.SevenTiedAt
set_option linter.unusedSimpArgs false
set_option linter.unusedVariables false
namespace Go.Proofs.YtlmfonchlniloaaGreatDoor
open Go
set_option maxRecDepth 100000
theorem fbC1 : Rows.fairRefusesRow.wfByText (OpenSpec.ofChange Rows.fairRefusesSpec) = true := by kernel_rfl
theorem fbC2 : Tryz.pinned.checked.prog.mainIs = some (true, "a012812392cf012c5310354e80249db725bcc17d4cb8a006c5d7a9283120cf84".toList) := by kernel_rfl
theorem fbC4 : true = Tryz.pinned.checked.prog.looks [] := by kernel_rfl
theorem fbC5_0 : Tryz.pinned.checked.prog.wantsStandIn 5 = false := by kernel_rfl
theorem fbC5_1 : Tryz.pinned.checked.prog.wantsStandIn 22 = false := by kernel_rfl
/-- THE CARD. -/
theorem fairRefuses_card : Rows.FairRefusesCardSaid :=
  Claim7.holds_tied_plain_at .later [] [.data, .data, .data, .data, .data, .data, .data, .funcs, .pinned] true (true, "a012812392cf012c5310354e80249db725bcc17d4cb8a006c5d7a9283120cf84") true
    fb_holds (fun _ h => by cases h) fbC1 (fun _ h => by cases h) fb_row_tie rfl ⟨rfl, rfl⟩ fbC2 rfl
    (fun f fn hf hfn => by
      obtain rfl : f = 3 := Option.some.inj (fb_named.symm.trans hf) |>.symm
      obtain rfl : fn = Tryz.f3 := (Option.some.inj (Tryz.func3.symm.trans hfn)).symm
      exact ⟨fbC4, fun j t ht => by
        rw [Tryz.params3] at ht
        match j, ht with
        | 0, ht => simp at ht; subst ht; exact fbC5_0
        | 1, ht => simp at ht; subst ht; exact fbC5_1
        | _ + 2, ht => simp at ht⟩)
    fbC3
end Go.Proofs.YtlmfonchlniloaaGreatDoor
