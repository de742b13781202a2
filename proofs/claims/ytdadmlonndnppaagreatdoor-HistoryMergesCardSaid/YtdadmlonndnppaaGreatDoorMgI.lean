/-
  Closed facts of HistoryMerges' row.
-/
import Derived.Test.YtdadmlonndnppaaGreatDoorRows
import Derived.KernelRfl
import Derived.JoinedOf
set_option linter.unusedSimpArgs false
set_option linter.unusedVariables false
namespace Go.Proofs.YtdadmlonndnppaaGreatDoor
open Go
set_option maxRecDepth 100000
theorem mgJ12 : (Rows.historyMergesRow.recurses == Tryz.prog.recurses 3) = true := by kernel_rfl
theorem mgJ13 : (Rows.historyMergesRow.named == Tryz.prog.varsNamed 3) = true := by kernel_rfl
theorem mgJ26 : Tryz.prog.mayEnter = true := by kernel_rfl
end Go.Proofs.YtdadmlonndnppaaGreatDoor

namespace Go.Proofs.YtdadmlonndnppaaGreatDoor
open Go
set_option maxRecDepth 100000
theorem mgJ1 : Rows.historyMergesRow.wf (OpenSpec.ofChange Rows.historyMergesSpec) = true := by kernel_rfl
theorem mgJ4 : Tryz.f3.params.all (Tryz.prog.readableRec ·) = true := by kernel_rfl
theorem mgJ5 : namedTie Tryz.prog Rows.historyMergesRow.named Rows.historyMergesSpec.vars = true := by kernel_rfl
theorem mgJ6 : (Rows.historyMergesRow.stops == []) = true := by kernel_rfl
theorem mgJ7 : (Tryz.prog.stops == []) = true := by kernel_rfl
theorem mgJ8 : (Rows.historyMergesRow.knobs == []) = true := by kernel_rfl
theorem mgJ9 : (Tryz.prog.stopKnobs == []) = true := by kernel_rfl
theorem mgJ14 : (Rows.historyMergesRow.maps == (Tryz.f3.params.toList ++ Rows.historyMergesSpec.plain.varTypes Tryz.prog).any (Tryz.prog.mapsRec ·)) = true := by kernel_rfl
theorem mgJ15 : (Rows.historyMergesRow.ifaces == (Tryz.f3.params.toList ++ Rows.historyMergesSpec.plain.varTypes Tryz.prog).any (Tryz.prog.ifacesRec ·)) = true := by kernel_rfl
theorem mgJ16 : (Rows.historyMergesRow.mapsOut == Tryz.prog.mapsAmong Tryz.f3.resultTypes.toList) = true := by kernel_rfl
theorem mgJ17 : (Rows.historyMergesRow.loops == (Tryz.f3.params.toList ++ Rows.historyMergesSpec.plain.varTypes Tryz.prog).any (Tryz.prog.loopsFrom ·)) = true := by kernel_rfl
theorem mgJ18 : (Rows.historyMergesRow.wideKeys == (Tryz.f3.params.toList ++ Rows.historyMergesSpec.plain.varTypes Tryz.prog ++ Tryz.f3.resultTypes.toList).any (Tryz.prog.wideKeysFrom ·)) = true := by kernel_rfl
theorem mgJ19 : Rows.historyMergesSpec.vars.all (Tryz.prog.varReadable ·) = true := by kernel_rfl
theorem mgJ20 : Tryz.f3.resultTypes.all (fun t => Tryz.prog.readableRec t && decide (t < Tryz.prog.types.size)) = true := by kernel_rfl
theorem mgJ21 : (Rows.historyMergesRow.ifacesOut == Tryz.f3.resultTypes.toList.any (Tryz.prog.ifacesRec ·)) = true := by kernel_rfl
theorem mgJ22 : (Rows.historyMergesRow.loopsOut == Tryz.f3.resultTypes.toList.any (Tryz.prog.loopsFrom ·)) = true := by kernel_rfl
theorem mgJ24 : Rows.historyMergesRow.shortTexts.isNone = true := by kernel_rfl
theorem mgJ27 : (Rows.historyMergesRow.lifted == Tryz.prog.liftsFinal) = true := by kernel_rfl
theorem mgJ28 : (Tryz.prog.make == some Rows.historyMergesRow.make) = true := by kernel_rfl
theorem mgJ29 : (Rows.historyMergesRow.kinds == (if Rows.historyMergesRow.domain.isEmpty then [] else Tryz.f3.params.toList.map fun t => match Tryz.prog.underlying t with | some (.int k) => some k | _ => none)) = true := by kernel_rfl
theorem mgJ30 : (Rows.historyMergesRow.pinned == Rows.historyMergesRow.pinnedBy) = true := by kernel_rfl
theorem mgJ31 : (Rows.historyMergesRow.veiled == (Tryz.f3.params.toList ++ Rows.historyMergesSpec.plain.varTypes Tryz.prog ++ Tryz.f3.resultTypes.toList).any (Tryz.prog.veiledRec ·)) = true := by kernel_rfl
theorem mgJ32 : Rows.historyMergesRow.veiledFits Tryz.prog Tryz.f3.params.toList (Tryz.f3.params.toList ++ Rows.historyMergesSpec.plain.varTypes Tryz.prog ++ Tryz.f3.resultTypes.toList) = true := by kernel_rfl
end Go.Proofs.YtdadmlonndnppaaGreatDoor
