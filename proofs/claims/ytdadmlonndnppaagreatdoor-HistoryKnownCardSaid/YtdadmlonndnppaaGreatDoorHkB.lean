/-
  The second piece of HistoryKnown's call, carried out.
-/
import Derived.Test.YtdadmlonndnppaaGreatDoorHkS
import Derived.Test.YtdadmlonndnppaaGreatDoorSxF
namespace Go.Proofs
open Go.Sx
set_option maxRecDepth 1000000
set_option maxHeartbeats 0
theorem hk_seg2 : segAll hkS2 (segRun 2 (segTail 4 (hkBody)) (fns Tryz.tab 3000) Tryz.tab hkC hkS1) = true := by kernel_rfl
end Go.Proofs
