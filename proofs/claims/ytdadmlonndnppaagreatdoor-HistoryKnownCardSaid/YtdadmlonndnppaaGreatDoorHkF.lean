/-
  Closed facts of HistoryKnown's row.
-/
import Derived.Test.YtdadmlonndnppaaGreatDoorRows
import Derived.KernelRfl
import Derived.JoinedOf
namespace Go.Proofs.YtdadmlonndnppaaGreatDoor
open Go
set_option maxRecDepth 100000
theorem hkJ2 : laidOutB Tryz.prog = true := by kernel_rfl
theorem hkJ3 : mapsRowed Tryz.prog = true := by kernel_rfl
theorem hkJ25 : Tryz.prog.stopsHeard = true := by kernel_rfl
end Go.Proofs.YtdadmlonndnppaaGreatDoor

namespace Go.Proofs.YtdadmlonndnppaaGreatDoor
open Go
set_option maxRecDepth 100000
theorem hkJ10 : (Rows.historyKnownRow.inPlace == Tryz.prog.inPlace 5) = true := by kernel_rfl
theorem hkJ11 : (Rows.historyKnownRow.unfollowed == Tryz.prog.unfollowed 5) = true := by kernel_rfl
theorem hkJ23 : (Rows.historyKnownRow.plainKeys == Tryz.prog.plainKeys) = true := by kernel_rfl
end Go.Proofs.YtdadmlonndnppaaGreatDoor
