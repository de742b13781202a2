/-
  ConsoleNil' tied card: the call returns true for all arguments and leaves what stood as it was; the listed variables are tied to the program's text.
-/
import Derived.Test.YtcoigmfhlbngfaaGreatDoorNFbProof
import Derived.Test.YtcoigmfhlbngfaaGreatDoorNFbR
import Derived.Test.YtcoigmfhlbngfaaGreatDoorNFbS
import Derived.Test.YtcoigmfhlbngfaaGreatDoorCards
import Derived.SevenTiedAt
set_option linter.unusedSimpArgs false
set_option linter.unusedVariables false
namespace Go.Proofs.YtcoigmfhlbngfaaGreatDoor
open Go
set_option maxRecDepth 100000
theorem fbC1 : Rows.consoleNilRow.wfByText (OpenSpec.ofChange Rows.consoleNilSpec) = true := by kernel_rfl
theorem fbC2 : Tryz.pinned.checked.prog.mainIs = some (true, "10f0ac247b6487b36b5e5e0fd243c1966b9dc59860641828749f6833b87fe923".toList) := by kernel_rfl
theorem fbC4 : true = Tryz.pinned.checked.prog.looks [] := by kernel_rfl
theorem j8T : Tryz.pinned.checked.prog.wantsStandIn 9 = false := by kernel_rfl
theorem consoleNil_card : Rows.ConsoleNilCardSaid :=
 Claim7.holds_tied_plain_at .later [] [.data, .data, .data, .data, .sentinel, .sentinel, .data, .data, .data, .data, .funcs, .widerDeep, .pinned] true (true, "10f0ac247b6487b36b5e5e0fd243c1966b9dc59860641828749f6833b87fe923") true
  j2z (fun _ h => by cases h) fbC1 (fun _ h => by cases h) q7f rfl ⟨rfl, rfl⟩ fbC2 rfl
  (fun f fn hf hfn => by
   obtain rfl : f = 3 := Option.some.inj (q5V.symm.trans hf) |>.symm
   obtain rfl : fn = Tryz.f3 := (Option.some.inj (Tryz.func3.symm.trans hfn)).symm
   exact ⟨fbC4, fun j t ht => by
    rw [Tryz.params3] at ht
    match j, ht with
    | 0, ht => simp at ht; subst ht; exact j8T
    | _ + 1, ht => simp at ht⟩)
  fbC3
end Go.Proofs.YtcoigmfhlbngfaaGreatDoor
