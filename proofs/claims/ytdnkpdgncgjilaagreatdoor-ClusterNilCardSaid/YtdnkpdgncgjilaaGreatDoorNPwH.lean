/-
  The same (8).
-/
import Derived.Test.YtdnkpdgncgjilaaGreatDoorNPwE
import Derived.Test.YtdnkpdgncgjilaaGreatDoorNPwF
import Derived.Test.YtdnkpdgncgjilaaGreatDoorNPwA
set_option linter.unusedSimpArgs false
set_option linter.unusedVariables false
namespace Go.Proofs
open Go.Sx
set_option maxRecDepth 1000000
set_option maxHeartbeats 0
theorem k1e : z2s j7e (loopTo (z0u cnL (fnsO Tryz.tab (ovOr (ovPt 124 q1x q1v (q1y, q1w)) z1a) 2000) Tryz.tab cnRc) 1 j7d) = true := by kernel_rfl
end Go.Proofs
namespace Go.Proofs
open Go.Sx
set_option maxRecDepth 1000000
set_option maxHeartbeats 0
theorem k1f : z2s j7f (loopTo (z0u cnL (fnsO Tryz.tab (ovOr (ovPt 124 q1B q1z (q1C, q1A)) z1a) 2000) Tryz.tab cnRc) 1 j7e) = true := by kernel_rfl
end Go.Proofs
namespace Go.Proofs
open Go.Sx
set_option maxRecDepth 1000000
set_option maxHeartbeats 0
theorem k1g : z2s j7g (loopTo (z0u cnL (fnsO Tryz.tab z1a 2000) Tryz.tab cnRc) 7 j7f) = true := by kernel_rfl
end Go.Proofs
namespace Go.Proofs
open Go.Sx
set_option maxRecDepth 1000000
set_option maxHeartbeats 0
theorem k1h : z2s j7h (loopTo (z0u cnL (fnsO Tryz.tab z1a 2000) Tryz.tab cnRc) 8 j7g) = true := by kernel_rfl
end Go.Proofs
