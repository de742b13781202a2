/-
  ClusterNil' tied card: the call returns true for all arguments and leaves what stood as it was; the listed variables are tied to the program's text.
-/
import Derived.Test.YtdnkpdgncgjilaaGreatDoorNFbProof
import Derived.Test.YtdnkpdgncgjilaaGreatDoorNFbR
import Derived.Test.YtdnkpdgncgjilaaGreatDoorNFbS
import Derived.Test.YtdnkpdgncgjilaaGreatDoorCards
import Derived.SevenTiedAt
set_option linter.unusedSimpArgs false
set_option linter.unusedVariables false
namespace Go.Proofs.YtdnkpdgncgjilaaGreatDoor
open Go
set_option maxRecDepth 100000
theorem fbC1 : Rows.clusterNilRow.wfByText (OpenSpec.ofChange Rows.clusterNilSpec) = true := by kernel_rfl
theorem fbC2 : Tryz.pinned.checked.prog.mainIs = some (true, "65c3164d21312d6fdb56a341d5b27cd948e876b03a96598448e0feefba132829".toList) := by kernel_rfl
theorem fbC4 : true = Tryz.pinned.checked.prog.looks [] := by kernel_rfl
theorem k3p : Tryz.pinned.checked.prog.wantsStandIn 28 = false := by kernel_rfl
theorem clusterNil_card : Rows.ClusterNilCardSaid :=
 Claim7.holds_tied_plain_at .later [] [.data, .data, .data, .data, .data, .data, .data, .funcs, .pinned] true (true, "65c3164d21312d6fdb56a341d5b27cd948e876b03a96598448e0feefba132829") true
  j4d (fun _ h => by cases h) fbC1 (fun _ h => by cases h) q7J rfl ⟨rfl, rfl⟩ fbC2 rfl
  (fun f fn hf hfn => by
   obtain rfl : f = 3 := Option.some.inj (q6D.symm.trans hf) |>.symm
   obtain rfl : fn = Tryz.f3 := (Option.some.inj (Tryz.func3.symm.trans hfn)).symm
   exact ⟨fbC4, fun j t ht => by
    rw [Tryz.params3] at ht
    match j, ht with
    | 0, ht => simp at ht; subst ht; exact k3p
    | _ + 1, ht => simp at ht⟩)
  fbC3
end Go.Proofs.YtdnkpdgncgjilaaGreatDoor
