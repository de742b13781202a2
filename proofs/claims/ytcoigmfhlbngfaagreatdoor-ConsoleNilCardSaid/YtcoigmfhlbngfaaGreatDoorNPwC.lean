/-
  The same (3).
-/
import Derived.Test.YtcoigmfhlbngfaaGreatDoorNPwA
set_option linter.unusedSimpArgs false
set_option linter.unusedVariables false
namespace Go.Proofs
open Go.Sx
set_option maxRecDepth 1000000
set_option maxHeartbeats 0
theorem k3o : z1S ckx6 (loopTo (z0p ckL (fnsO Tryz.tab ovK 2000) Tryz.tab ckWc) 1 ckx5) = true := by kernel_rfl
end Go.Proofs
namespace Go.Proofs
open Go.Sx
set_option maxRecDepth 1000000
set_option maxHeartbeats 0
theorem k3p : z1S ckx7 (loopTo (z0p ckL (fnsO Tryz.tab ovK 2000) Tryz.tab ckWc) 2 ckx6) = true := by kernel_rfl
end Go.Proofs
