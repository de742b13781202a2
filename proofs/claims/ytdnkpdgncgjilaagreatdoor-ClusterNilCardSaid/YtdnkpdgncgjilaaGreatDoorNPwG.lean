/-
  The same (7).
-/
import Derived.Test.YtdnkpdgncgjilaaGreatDoorNPwC
import Derived.Test.YtdnkpdgncgjilaaGreatDoorNPwD
set_option linter.unusedSimpArgs false
set_option linter.unusedVariables false
namespace Go.Proofs
open Go.Sx
set_option maxRecDepth 1000000
set_option maxHeartbeats 0
theorem k1c : z2s j7c (loopTo (z0u cnL (fnsO Tryz.tab (ovOr (ovPt 124 q1p q1n (q1q, q1o)) z1a) 2000) Tryz.tab cnRc) 1 j7b) = true := by kernel_rfl
end Go.Proofs
namespace Go.Proofs
open Go.Sx
set_option maxRecDepth 1000000
set_option maxHeartbeats 0
theorem k1d : z2s j7d (loopTo (z0u cnL (fnsO Tryz.tab (ovOr (ovPt 124 q1t q1r (q1u, q1s)) z1a) 2000) Tryz.tab cnRc) 1 j7c) = true := by kernel_rfl
end Go.Proofs
