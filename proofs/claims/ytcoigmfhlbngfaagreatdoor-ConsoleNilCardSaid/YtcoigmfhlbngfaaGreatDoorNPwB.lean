/-
  The same (2).
-/
import Derived.Test.YtcoigmfhlbngfaaGreatDoorNPwA
set_option linter.unusedSimpArgs false
set_option linter.unusedVariables false
namespace Go.Proofs
open Go.Sx
set_option maxRecDepth 1000000
set_option maxHeartbeats 0
theorem k3l : z1S ckx3 (loopTo (z0p ckL (fnsO Tryz.tab ovK 2000) Tryz.tab ckWc) 2 ckx2) = true := by kernel_rfl
end Go.Proofs
namespace Go.Proofs
open Go.Sx
set_option maxRecDepth 1000000
set_option maxHeartbeats 0
theorem k3m : z1S ckx4 (loopTo (z0p ckL (fnsO Tryz.tab ovK 2000) Tryz.tab ckWc) 1 ckx3) = true := by kernel_rfl
end Go.Proofs
namespace Go.Proofs
open Go.Sx
set_option maxRecDepth 1000000
set_option maxHeartbeats 0
theorem k3n : z1S ckx5 (loopTo (z0p ckL (fnsO Tryz.tab ovK 2000) Tryz.tab ckWc) 2 ckx4) = true := by kernel_rfl
end Go.Proofs
