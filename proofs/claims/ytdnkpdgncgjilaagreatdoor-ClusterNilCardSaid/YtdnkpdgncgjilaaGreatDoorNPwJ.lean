/-
  The same, joined.
-/
import Derived.Test.YtdnkpdgncgjilaaGreatDoorNPwA
import Derived.Test.YtdnkpdgncgjilaaGreatDoorNPwG
import Derived.Test.YtdnkpdgncgjilaaGreatDoorNPwH
import Derived.Test.YtdnkpdgncgjilaaGreatDoorNPwB
import Derived.Test.YtdnkpdgncgjilaaGreatDoorNPwC
import Derived.Test.YtdnkpdgncgjilaaGreatDoorNPwD
import Derived.Test.YtdnkpdgncgjilaaGreatDoorNPwE
import Derived.Test.YtdnkpdgncgjilaaGreatDoorNPwF
import Derived.Test.YtdnkpdgncgjilaaGreatDoorNPwI
set_option linter.unusedSimpArgs false
set_option linter.unusedVariables false
namespace Go.Proofs
open Go.Sx
set_option maxRecDepth 1000000
set_option maxHeartbeats 0
theorem q7X : CallTo Tryz.prog Tryz.tab 16 cnC1 cnA1 [(.int .i64 0, cnB1)] := by
 refine z2Q Tryz.tabOk Tryz.func16 rfl (by kernel_rfl) ?_
 show Gets Tryz.prog Tryz.tab cnRc cnRb _ _
 refine Gets.seg Tryz.tabOk z0s k0T ?_
 rw [w4G]
 refine Gets.seq (Gets.blk ?_)
 refine Gets.loopSeg Tryz.tabOk z0s k0Z ?_
 refine Gets.loopSeg Tryz.tabOk z0s k1a ?_
 refine Gets.loopExit Tryz.tabOk z0s k0U ?_
 refine z3v ?_
 exact Gets.endAll Tryz.tabOk z0s k0V
theorem q7Y : CallTo Tryz.prog Tryz.tab 16 cnC2 cnA2 [(.int .i64 0, cnB2)] := by
 refine z2Q Tryz.tabOk Tryz.func16 rfl (by kernel_rfl) ?_
 show Gets Tryz.prog Tryz.tab cnRc cnRb _ _
 refine Gets.seg Tryz.tabOk z0s k0W ?_
 rw [w4G]
 refine Gets.seq (Gets.blk ?_)
 refine Gets.loopSeg Tryz.tabOk z0s k1b ?_
 refine Gets.loopSeg Tryz.tabOk (z6n (z6m j5k) z0s) k1c ?_
 refine Gets.loopSeg Tryz.tabOk (z6n (z6m j5l) z0s) k1d ?_
 refine Gets.loopSeg Tryz.tabOk (z6n (z6m j5m) z0s) k1e ?_
 refine Gets.loopSeg Tryz.tabOk (z6n (z6m j5n) z0s) k1f ?_
 refine Gets.loopSeg Tryz.tabOk z0s k1g ?_
 refine Gets.loopSeg Tryz.tabOk z0s k1h ?_
 refine Gets.loopExit Tryz.tabOk z0s k0X ?_
 refine z3v ?_
 exact Gets.endAll Tryz.tabOk z0s k0Y
end Go.Proofs
namespace Go.Proofs
open Go.Sx
set_option maxRecDepth 1000000
set_option maxHeartbeats 0
theorem j0m : CallTo Tryz.prog Tryz.tab 5 [] cnH0 [(.bool true, cnH0)] := by
 refine z0Q Tryz.tabOk Tryz.func5 rfl (by kernel_rfl) ?_
 show Gets Tryz.prog Tryz.tab cnWc cnWb ⟨.e, cnH0, []⟩ _
 refine Gets.seg Tryz.tabOk z0s w8E ?_
 refine Gets.seg Tryz.tabOk (z6n (z6m q7X) z0s) w8F ?_
 refine Gets.seg Tryz.tabOk (z6n (z6m q7Y) (z6n (z6m j5j) z0s)) w8G ?_
 exact Gets.endOk Tryz.tabOk z0s w4H (z5K q1i) trivial
end Go.Proofs
