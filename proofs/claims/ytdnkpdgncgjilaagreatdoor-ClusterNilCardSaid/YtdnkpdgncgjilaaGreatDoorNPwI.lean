/-
  The same (9).
-/
import Derived.Test.YtdnkpdgncgjilaaGreatDoorNPwA
import Derived.Test.YtdnkpdgncgjilaaGreatDoorNPwB
set_option linter.unusedSimpArgs false
set_option linter.unusedVariables false
namespace Go.Proofs
open Go.Sx
set_option maxRecDepth 1000000
set_option maxHeartbeats 0
theorem w8F : z2s cnW2 (z4u 1 (z2L 3 cnWb) (fnsO Tryz.tab (ovOr (ovPt 16 cnC1 cnA1 (.int .i64 0, cnB1)) z1a) 2000) Tryz.tab cnWc cnW1) = true := by kernel_rfl
end Go.Proofs
namespace Go.Proofs
open Go.Sx
set_option maxRecDepth 1000000
set_option maxHeartbeats 0
theorem w8G : z2s cnW3 (z4u 2 (z2L 1 (z2L 3 cnWb)) (fnsO Tryz.tab (ovOr (ovPt 16 cnC2 cnA2 (.int .i64 0, cnB2)) (ovOr (ovPt 124 q1l q1j (q1m, q1k)) z1a)) 2000) Tryz.tab cnWc cnW2) = true := by kernel_rfl
end Go.Proofs
