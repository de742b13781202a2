/-
  A closed fact of the row.
-/
import Derived.Test.YthfkhidmeeajfaaGreatDoorRows
import Derived.KernelRfl
import Derived.JoinedOf
set_option linter.unusedSimpArgs false
set_option linter.unusedVariables false
namespace Go.Proofs.YthfkhidmeeajfaaGreatDoor
open Go
set_option maxRecDepth 100000
theorem k8o : Tryz.prog.mayEnter = true := by kernel_rfl
end Go.Proofs.YthfkhidmeeajfaaGreatDoor
