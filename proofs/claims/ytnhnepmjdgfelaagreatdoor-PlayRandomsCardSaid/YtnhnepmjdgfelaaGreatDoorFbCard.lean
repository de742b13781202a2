/-
  PlayRandoms' tied card: the call returns true for all arguments and leaves what stood as it was; the listed variables are tied to the program's text.
-/
import Derived.Test.YtnhnepmjdgfelaaGreatDoorFbProof
import Derived.Test.YtnhnepmjdgfelaaGreatDoorFbR
import Derived.Test.YtnhnepmjdgfelaaGreatDoorFbS
import Derived.Test.YtnhnepmjdgfelaaGreatDoorCards
import Derived.SevenTiedAt
set_option linter.unusedSimpArgs false
set_option linter.unusedVariables false
set_option linter.deprecated false
namespace Go.Proofs.YtnhnepmjdgfelaaGreatDoor
open Go
set_option maxRecDepth 100000
theorem fbC1 : Rows.playRandomsRow.wfByText (OpenSpec.ofChange Rows.playRandomsSpec) = true := by kernel_rfl
theorem fbC2 : Tryz.pinned.checked.prog.mainIs = some (true, "5fb6f5fb6e5ee852b695e0241cb3e0a8af36814d9d2a7009461f997ecc2c0fbc".toList) := by kernel_rfl
theorem fbC4 : true = Tryz.pinned.checked.prog.looks [] := by kernel_rfl
theorem fbC5_0 : Tryz.pinned.checked.prog.wantsStandIn 25 = false := by kernel_rfl
theorem fbC5_1 : Tryz.pinned.checked.prog.wantsStandIn 26 = false := by kernel_rfl
theorem fbC5_2 : Tryz.pinned.checked.prog.wantsStandIn 3 = false := by kernel_rfl
theorem playRandoms_card : Rows.PlayRandomsCardSaid :=
 Claim7.holds_tied_plain_at .later [] [.data, .data, .data, .data, .data, .data, .data, .funcs, .pinned] true (true, "5fb6f5fb6e5ee852b695e0241cb3e0a8af36814d9d2a7009461f997ecc2c0fbc") true
  fb_holds (fun _ h => by cases h) fbC1 (fun _ h => by cases h) fb_row_tie rfl ⟨rfl, rfl⟩ fbC2 rfl
  (fun f fn hf hfn => by
   obtain rfl : f = 3 := Option.some.inj (fb_named.symm.trans hf) |>.symm
   obtain rfl : fn = Tryz.f3 := (Option.some.inj (Tryz.func3.symm.trans hfn)).symm
   exact ⟨fbC4, fun j t ht => by
    rw [Tryz.params3] at ht
    match j, ht with
    | 0, ht => simp at ht; subst ht; exact fbC5_0
    | 1, ht => simp at ht; subst ht; exact fbC5_1
    | 2, ht => simp at ht; subst ht; exact fbC5_2
    | _ + 3, ht => simp at ht⟩)
  fbC3
end Go.Proofs.YtnhnepmjdgfelaaGreatDoor
