/-
  Closed facts of HistoryOrders' row.
-/
import Derived.Test.YtdadmlonndnppaaGreatDoorRows
import Derived.KernelRfl
import Derived.JoinedOf
set_option linter.unusedSimpArgs false
set_option linter.unusedVariables false
namespace Go.Proofs.YtdadmlonndnppaaGreatDoor
open Go
set_option maxRecDepth 100000
theorem orJ2 : laidOutB Tryz.prog = true := by kernel_rfl
theorem orJ3 : mapsRowed Tryz.prog = true := by kernel_rfl
theorem orJ25 : Tryz.prog.stopsHeard = true := by kernel_rfl
end Go.Proofs.YtdadmlonndnppaaGreatDoor

namespace Go.Proofs.YtdadmlonndnppaaGreatDoor
open Go
set_option maxRecDepth 100000
theorem orJ10 : (Rows.historyOrdersRow.inPlace == Tryz.prog.inPlace 4) = true := by kernel_rfl
theorem orJ11 : (Rows.historyOrdersRow.unfollowed == Tryz.prog.unfollowed 4) = true := by kernel_rfl
theorem orJ23 : (Rows.historyOrdersRow.plainKeys == Tryz.prog.plainKeys) = true := by kernel_rfl
end Go.Proofs.YtdadmlonndnppaaGreatDoor
