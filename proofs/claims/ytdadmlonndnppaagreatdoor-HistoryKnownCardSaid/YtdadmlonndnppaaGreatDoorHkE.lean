/-
  The last piece of HistoryKnown's call, carried out: it returns true.
-/
import Derived.Test.YtdadmlonndnppaaGreatDoorHkS
import Derived.Test.YtdadmlonndnppaaGreatDoorSxF
namespace Go.Proofs
open Go.Sx
set_option maxRecDepth 1000000
set_option maxHeartbeats 0
theorem hk_end : endTrue (fns Tryz.tab 3000) Tryz.tab Tryz.f5.results.toList (codeB (segTail 7 (segTail 12 (segTail 2 (segTail 4 (hkBody))))) (fns Tryz.tab 3000) Tryz.tab hkC hkS4) = true := by kernel_rfl
end Go.Proofs
