/-
  The same, joined.
-/
import Derived.Test.YtcoigmfhlbngfaaGreatDoorNPwA
import Derived.Test.YtcoigmfhlbngfaaGreatDoorNPwB
import Derived.Test.YtcoigmfhlbngfaaGreatDoorNPwC
import Derived.Test.YtcoigmfhlbngfaaGreatDoorNPwD
set_option linter.unusedSimpArgs false
set_option linter.unusedVariables false
namespace Go.Proofs
open Go.Sx
set_option maxRecDepth 1000000
set_option maxHeartbeats 0
theorem j9y : z1S j9u (loopTo (z0p ckL (fnsO Tryz.tab ovK 2000) Tryz.tab ckWc) 1 ckx9) = true := by kernel_rfl
end Go.Proofs
namespace Go.Proofs
open Go.Sx
set_option maxRecDepth 1000000
set_option maxHeartbeats 0
theorem j9z : z1S j9v (loopTo (z0p ckL (fnsO Tryz.tab ovK 2000) Tryz.tab ckWc) 2 j9u) = true := by kernel_rfl
end Go.Proofs
namespace Go.Proofs
open Go.Sx
set_option maxRecDepth 1000000
set_option maxHeartbeats 0
theorem j9A : z1S j9x (loopTo (z0p ckL (fnsO Tryz.tab ovK 2000) Tryz.tab ckWc) 2 j9v) = true := by kernel_rfl
end Go.Proofs
namespace Go.Proofs
open Go.Sx
set_option maxRecDepth 1000000
set_option maxHeartbeats 0
theorem ck_e : q5M 0 ckxe (z0p ckL (fnsO Tryz.tab ovK 2000) Tryz.tab ckWc j9x) = true := by kernel_rfl
theorem j9B : endOk ckH0 Tryz.tab Tryz.f4.results.toList (.bool true) (z0p ckWr (fnsO Tryz.tab ovK 2000) Tryz.tab ckWc ckxe) = true := by kernel_rfl
theorem q0Z : j8l ckH0 = true := by kernel_rfl
end Go.Proofs
namespace Go.Proofs
open Go.Sx
set_option maxRecDepth 1000000
set_option maxHeartbeats 0
theorem q8E : CallTo Tryz.prog Tryz.tab 4 [] ckH0 [(.bool true, ckH0)] := by
 refine z4j Tryz.tabOk Tryz.func4 rfl (by kernel_rfl) ?_
 show Gets Tryz.prog Tryz.tab ckWc ckWb ⟨.e, ckH0, []⟩ _
 refine Gets.seg Tryz.tabOk z3b k3h ?_
 rw [k3g]
 refine Gets.seq (Gets.seq (Gets.step Tryz.tabOk z3b k3i ?_))
 change Gets _ _ _ _ _ _
 refine Gets.blk ?_
 refine Gets.loopSeg Tryz.tabOk z3b k3j ?_
 refine Gets.loopSeg Tryz.tabOk z3b k3k ?_
 refine Gets.loopSeg Tryz.tabOk z3b k3l ?_
 refine Gets.loopSeg Tryz.tabOk z3b k3m ?_
 refine Gets.loopSeg Tryz.tabOk z3b k3n ?_
 refine Gets.loopSeg Tryz.tabOk z3b k3o ?_
 refine Gets.loopSeg Tryz.tabOk z3b k3p ?_
 refine Gets.loopSeg Tryz.tabOk z3b k3q ?_
 refine Gets.loopSeg Tryz.tabOk z3b k3r ?_
 refine Gets.loopSeg Tryz.tabOk z3b j9y ?_
 refine Gets.loopSeg Tryz.tabOk z3b j9z ?_
 refine Gets.loopSeg Tryz.tabOk z3b j9A ?_
 refine Gets.loopExit Tryz.tabOk z3b ck_e ?_
 refine z7p ?_
 exact Gets.endOk Tryz.tabOk z3b j9B (z6N q0Z) trivial
end Go.Proofs
