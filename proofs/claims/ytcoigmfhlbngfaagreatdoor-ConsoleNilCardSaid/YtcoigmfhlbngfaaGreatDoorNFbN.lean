/-
  A closed fact of the tie.
-/
import Derived.Test.YtcoigmfhlbngfaaGreatDoorRows
import Derived.LaidByTextLater
import Derived.SevenTiedAt
import Derived.LaidSub
import Derived.LaidOnce
import Derived.KernelRfl
import Derived.Test.YtcoigmfhlbngfaaGreatDoorNFbL
set_option linter.unusedSimpArgs false
set_option linter.unusedVariables false
namespace Go.Proofs.YtcoigmfhlbngfaaGreatDoor
open Go
set_option maxRecDepth 100000
theorem fbT3 : Tryz.prog.worded rootWordLater = true := by
 rw [z5X]
 kernel_rfl
end Go.Proofs.YtcoigmfhlbngfaaGreatDoor
