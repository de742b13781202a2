/-
  A closed fact of the row.
-/
import Derived.Test.YtnhnepmjdgfelaaGreatDoorRows
import Derived.KernelRfl
import Derived.JoinedOf
set_option linter.unusedSimpArgs false
set_option linter.unusedVariables false
namespace Go.Proofs.YtnhnepmjdgfelaaGreatDoor
open Go
set_option maxRecDepth 100000
theorem fbJ26 : Tryz.prog.mayEnter = true := by kernel_rfl
end Go.Proofs.YtnhnepmjdgfelaaGreatDoor
