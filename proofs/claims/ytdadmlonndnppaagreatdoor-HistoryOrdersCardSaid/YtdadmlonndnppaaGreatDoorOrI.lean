/-
  Closed facts of HistoryOrders' row.
-/
import Derived.Test.YtdadmlonndnppaaGreatDoorRows
import Derived.KernelRfl
import Derived.JoinedOf
set_option linter.unusedSimpArgs false
set_option linter.unusedVariables false
namespace Go.Proofs.YtdadmlonndnppaaGreatDoor
open Go
set_option maxRecDepth 100000
theorem orJ12 : (Rows.historyOrdersRow.recurses == Tryz.prog.recurses 4) = true := by kernel_rfl
theorem orJ13 : (Rows.historyOrdersRow.named == Tryz.prog.varsNamed 4) = true := by kernel_rfl
theorem orJ26 : Tryz.prog.mayEnter = true := by kernel_rfl
end Go.Proofs.YtdadmlonndnppaaGreatDoor

namespace Go.Proofs.YtdadmlonndnppaaGreatDoor
open Go
set_option maxRecDepth 100000
theorem orJ1 : Rows.historyOrdersRow.wf (OpenSpec.ofChange Rows.historyOrdersSpec) = true := by kernel_rfl
theorem orJ4 : Tryz.f4.params.all (Tryz.prog.readableRec ·) = true := by kernel_rfl
theorem orJ5 : namedTie Tryz.prog Rows.historyOrdersRow.named Rows.historyOrdersSpec.vars = true := by kernel_rfl
theorem orJ6 : (Rows.historyOrdersRow.stops == []) = true := by kernel_rfl
theorem orJ7 : (Tryz.prog.stops == []) = true := by kernel_rfl
theorem orJ8 : (Rows.historyOrdersRow.knobs == []) = true := by kernel_rfl
theorem orJ9 : (Tryz.prog.stopKnobs == []) = true := by kernel_rfl
theorem orJ14 : (Rows.historyOrdersRow.maps == (Tryz.f4.params.toList ++ Rows.historyOrdersSpec.plain.varTypes Tryz.prog).any (Tryz.prog.mapsRec ·)) = true := by kernel_rfl
theorem orJ15 : (Rows.historyOrdersRow.ifaces == (Tryz.f4.params.toList ++ Rows.historyOrdersSpec.plain.varTypes Tryz.prog).any (Tryz.prog.ifacesRec ·)) = true := by kernel_rfl
theorem orJ16 : (Rows.historyOrdersRow.mapsOut == Tryz.prog.mapsAmong Tryz.f4.resultTypes.toList) = true := by kernel_rfl
theorem orJ17 : (Rows.historyOrdersRow.loops == (Tryz.f4.params.toList ++ Rows.historyOrdersSpec.plain.varTypes Tryz.prog).any (Tryz.prog.loopsFrom ·)) = true := by kernel_rfl
theorem orJ18 : (Rows.historyOrdersRow.wideKeys == (Tryz.f4.params.toList ++ Rows.historyOrdersSpec.plain.varTypes Tryz.prog ++ Tryz.f4.resultTypes.toList).any (Tryz.prog.wideKeysFrom ·)) = true := by kernel_rfl
theorem orJ19 : Rows.historyOrdersSpec.vars.all (Tryz.prog.varReadable ·) = true := by kernel_rfl
theorem orJ20 : Tryz.f4.resultTypes.all (fun t => Tryz.prog.readableRec t && decide (t < Tryz.prog.types.size)) = true := by kernel_rfl
theorem orJ21 : (Rows.historyOrdersRow.ifacesOut == Tryz.f4.resultTypes.toList.any (Tryz.prog.ifacesRec ·)) = true := by kernel_rfl
theorem orJ22 : (Rows.historyOrdersRow.loopsOut == Tryz.f4.resultTypes.toList.any (Tryz.prog.loopsFrom ·)) = true := by kernel_rfl
theorem orJ24 : Rows.historyOrdersRow.shortTexts.isNone = true := by kernel_rfl
theorem orJ27 : (Rows.historyOrdersRow.lifted == Tryz.prog.liftsFinal) = true := by kernel_rfl
theorem orJ28 : (Tryz.prog.make == some Rows.historyOrdersRow.make) = true := by kernel_rfl
theorem orJ29 : (Rows.historyOrdersRow.kinds == (if Rows.historyOrdersRow.domain.isEmpty then [] else Tryz.f4.params.toList.map fun t => match Tryz.prog.underlying t with | some (.int k) => some k | _ => none)) = true := by kernel_rfl
theorem orJ30 : (Rows.historyOrdersRow.pinned == Rows.historyOrdersRow.pinnedBy) = true := by kernel_rfl
theorem orJ31 : (Rows.historyOrdersRow.veiled == (Tryz.f4.params.toList ++ Rows.historyOrdersSpec.plain.varTypes Tryz.prog ++ Tryz.f4.resultTypes.toList).any (Tryz.prog.veiledRec ·)) = true := by kernel_rfl
theorem orJ32 : Rows.historyOrdersRow.veiledFits Tryz.prog Tryz.f4.params.toList (Tryz.f4.params.toList ++ Rows.historyOrdersSpec.plain.varTypes Tryz.prog ++ Tryz.f4.resultTypes.toList) = true := by kernel_rfl
end Go.Proofs.YtdadmlonndnppaaGreatDoor
