/-
  A closed fact of the row.
-/
import Derived.Test.YtdnkpdgncgjilaaGreatDoorRows
import Derived.KernelRfl
import Derived.JoinedOf
set_option linter.unusedSimpArgs false
set_option linter.unusedVariables false
namespace Go.Proofs.YtdnkpdgncgjilaaGreatDoor
open Go
set_option maxRecDepth 100000
theorem w7I : Tryz.prog.stopsHeard = true := by kernel_rfl
end Go.Proofs.YtdnkpdgncgjilaaGreatDoor
