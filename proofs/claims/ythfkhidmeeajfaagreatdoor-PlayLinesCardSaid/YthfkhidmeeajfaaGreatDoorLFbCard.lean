/-
  PlayLines' tied card: the call returns true for all arguments and leaves what stood as it was; the listed variables are tied to the program's text.
-/
import Derived.Test.YthfkhidmeeajfaaGreatDoorLFbProof
import Derived.Test.YthfkhidmeeajfaaGreatDoorLFbR
import Derived.Test.YthfkhidmeeajfaaGreatDoorLFbS
import Derived.Test.YthfkhidmeeajfaaGreatDoorCards
import Derived.SevenTiedAt
set_option linter.unusedSimpArgs false
set_option linter.unusedVariables false
namespace Go.Proofs.YthfkhidmeeajfaaGreatDoor
open Go
set_option maxRecDepth 100000
theorem fbC1 : Rows.playLinesRow.wfByText (OpenSpec.ofChange Rows.playLinesSpec) = true := by kernel_rfl
theorem fbC2 : Tryz.pinned.checked.prog.mainIs = some (true, "be533c4af5f0b0940cccbf3951bd793459506148599bc4c33891df39a2d37647".toList) := by kernel_rfl
theorem fbC4 : true = Tryz.pinned.checked.prog.looks [] := by kernel_rfl
theorem k3v : Tryz.pinned.checked.prog.wantsStandIn 22 = false := by kernel_rfl
theorem k3w : Tryz.pinned.checked.prog.wantsStandIn 22 = false := by kernel_rfl
theorem playLines_card : Rows.PlayLinesCardSaid :=
 Claim7.holds_tied_plain_at .later [] [.data, .data, .data, .data, .data, .data, .data, .funcs, .pinned] true (true, "be533c4af5f0b0940cccbf3951bd793459506148599bc4c33891df39a2d37647") true
  j6u (fun _ h => by cases h) fbC1 (fun _ h => by cases h) q9v rfl ⟨rfl, rfl⟩ fbC2 rfl
  (fun f fn hf hfn => by
   obtain rfl : f = 4 := Option.some.inj (q7K.symm.trans hf) |>.symm
   obtain rfl : fn = Tryz.f4 := (Option.some.inj (Tryz.func4.symm.trans hfn)).symm
   exact ⟨fbC4, fun j t ht => by
    rw [Tryz.params4] at ht
    match j, ht with
    | 0, ht => simp at ht; subst ht; exact k3v
    | 1, ht => simp at ht; subst ht; exact k3w
    | _ + 2, ht => simp at ht⟩)
  fbC3
end Go.Proofs.YthfkhidmeeajfaaGreatDoor
