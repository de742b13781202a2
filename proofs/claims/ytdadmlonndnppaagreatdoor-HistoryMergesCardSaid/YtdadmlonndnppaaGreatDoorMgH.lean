/-
  Closed facts of HistoryMerges' row.
-/
import Derived.Test.YtdadmlonndnppaaGreatDoorRows
import Derived.KernelRfl
import Derived.JoinedOf
set_option linter.unusedSimpArgs false
set_option linter.unusedVariables false
namespace Go.Proofs.YtdadmlonndnppaaGreatDoor
open Go
set_option maxRecDepth 100000
theorem mgJ2 : laidOutB Tryz.prog = true := by kernel_rfl
theorem mgJ3 : mapsRowed Tryz.prog = true := by kernel_rfl
theorem mgJ25 : Tryz.prog.stopsHeard = true := by kernel_rfl
end Go.Proofs.YtdadmlonndnppaaGreatDoor

namespace Go.Proofs.YtdadmlonndnppaaGreatDoor
open Go
set_option maxRecDepth 100000
theorem mgJ10 : (Rows.historyMergesRow.inPlace == Tryz.prog.inPlace 3) = true := by kernel_rfl
theorem mgJ11 : (Rows.historyMergesRow.unfollowed == Tryz.prog.unfollowed 3) = true := by kernel_rfl
theorem mgJ23 : (Rows.historyMergesRow.plainKeys == Tryz.prog.plainKeys) = true := by kernel_rfl
end Go.Proofs.YtdadmlonndnppaaGreatDoor
