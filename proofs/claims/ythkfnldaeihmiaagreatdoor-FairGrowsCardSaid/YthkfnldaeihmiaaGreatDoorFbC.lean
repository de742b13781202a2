/-
  The chapter's examples work: a closed call by the kernel.
-/
import Derived.Test.YthkfnldaeihmiaaGreatDoorFbB
set_option linter.unusedSimpArgs false
set_option linter.unusedVariables false
namespace Go.Proofs
open Go.Sx
set_option maxRecDepth 1000000
set_option maxHeartbeats 0
theorem works_true : trueO ((fns Tryz.tab 2000).call 10 [] gH0) = true := by kernel_rfl
end Go.Proofs
