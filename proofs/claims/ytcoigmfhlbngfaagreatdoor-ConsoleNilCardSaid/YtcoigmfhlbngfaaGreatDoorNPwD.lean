/-
  The same (4).
-/
import Derived.Test.YtcoigmfhlbngfaaGreatDoorNPwA
set_option linter.unusedSimpArgs false
set_option linter.unusedVariables false
namespace Go.Proofs
open Go.Sx
set_option maxRecDepth 1000000
set_option maxHeartbeats 0
theorem k3q : z1S ckx8 (loopTo (z0p ckL (fnsO Tryz.tab ovK 2000) Tryz.tab ckWc) 1 ckx7) = true := by kernel_rfl
end Go.Proofs
namespace Go.Proofs
open Go.Sx
set_option maxRecDepth 1000000
set_option maxHeartbeats 0
theorem k3r : z1S ckx9 (loopTo (z0p ckL (fnsO Tryz.tab ovK 2000) Tryz.tab ckWc) 1 ckx8) = true := by kernel_rfl
end Go.Proofs
