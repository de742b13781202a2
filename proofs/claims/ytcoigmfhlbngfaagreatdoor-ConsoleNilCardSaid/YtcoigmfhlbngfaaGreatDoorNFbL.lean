/-
  A closed fact of the tie.
-/
import Derived.Test.YtcoigmfhlbngfaaGreatDoorRows
import Derived.LaidByTextLater
import Derived.SevenTiedAt
import Derived.LaidSub
import Derived.LaidOnce
import Derived.KernelRfl
set_option linter.unusedSimpArgs false
set_option linter.unusedVariables false
namespace Go.Proofs.YtcoigmfhlbngfaaGreatDoor
open Go
set_option maxRecDepth 100000
theorem z5X (P : Program) (w : String) : P.worded w = P.funcs.toList.any fun fn => fn.body.isNone && fn.name == w := by
 unfold Program.worded
 rw [Array.any_toList]
theorem fbT1 : Tryz.prog.worded (varsWordLater true) = true := by
 rw [z5X]
 kernel_rfl
end Go.Proofs.YtcoigmfhlbngfaaGreatDoor
