/-
  Closed facts of HistoryKnown's row.
-/
import Derived.Test.YtdadmlonndnppaaGreatDoorRows
import Derived.KernelRfl
import Derived.JoinedOf
namespace Go.Proofs.YtdadmlonndnppaaGreatDoor
open Go
set_option maxRecDepth 100000
theorem hkJ12 : (Rows.historyKnownRow.recurses == Tryz.prog.recurses 5) = true := by kernel_rfl
theorem hkJ13 : (Rows.historyKnownRow.named == Tryz.prog.varsNamed 5) = true := by kernel_rfl
theorem hkJ26 : Tryz.prog.mayEnter = true := by kernel_rfl
end Go.Proofs.YtdadmlonndnppaaGreatDoor

namespace Go.Proofs.YtdadmlonndnppaaGreatDoor
open Go
set_option maxRecDepth 100000
theorem hkJ1 : Rows.historyKnownRow.wf (OpenSpec.ofChange Rows.historyKnownSpec) = true := by kernel_rfl
theorem hkJ4 : Tryz.f5.params.all (Tryz.prog.readableRec ·) = true := by kernel_rfl
theorem hkJ5 : namedTie Tryz.prog Rows.historyKnownRow.named Rows.historyKnownSpec.vars = true := by kernel_rfl
theorem hkJ6 : (Rows.historyKnownRow.stops == []) = true := by kernel_rfl
theorem hkJ7 : (Tryz.prog.stops == []) = true := by kernel_rfl
theorem hkJ8 : (Rows.historyKnownRow.knobs == []) = true := by kernel_rfl
theorem hkJ9 : (Tryz.prog.stopKnobs == []) = true := by kernel_rfl
theorem hkJ14 : (Rows.historyKnownRow.maps == (Tryz.f5.params.toList ++ Rows.historyKnownSpec.plain.varTypes Tryz.prog).any (Tryz.prog.mapsRec ·)) = true := by kernel_rfl
theorem hkJ15 : (Rows.historyKnownRow.ifaces == (Tryz.f5.params.toList ++ Rows.historyKnownSpec.plain.varTypes Tryz.prog).any (Tryz.prog.ifacesRec ·)) = true := by kernel_rfl
theorem hkJ16 : (Rows.historyKnownRow.mapsOut == Tryz.prog.mapsAmong Tryz.f5.resultTypes.toList) = true := by kernel_rfl
theorem hkJ17 : (Rows.historyKnownRow.loops == (Tryz.f5.params.toList ++ Rows.historyKnownSpec.plain.varTypes Tryz.prog).any (Tryz.prog.loopsFrom ·)) = true := by kernel_rfl
theorem hkJ18 : (Rows.historyKnownRow.wideKeys == (Tryz.f5.params.toList ++ Rows.historyKnownSpec.plain.varTypes Tryz.prog ++ Tryz.f5.resultTypes.toList).any (Tryz.prog.wideKeysFrom ·)) = true := by kernel_rfl
theorem hkJ19 : Rows.historyKnownSpec.vars.all (Tryz.prog.varReadable ·) = true := by kernel_rfl
theorem hkJ20 : Tryz.f5.resultTypes.all (fun t => Tryz.prog.readableRec t && decide (t < Tryz.prog.types.size)) = true := by kernel_rfl
theorem hkJ21 : (Rows.historyKnownRow.ifacesOut == Tryz.f5.resultTypes.toList.any (Tryz.prog.ifacesRec ·)) = true := by kernel_rfl
theorem hkJ22 : (Rows.historyKnownRow.loopsOut == Tryz.f5.resultTypes.toList.any (Tryz.prog.loopsFrom ·)) = true := by kernel_rfl
theorem hkJ24 : Rows.historyKnownRow.shortTexts.isNone = true := by kernel_rfl
theorem hkJ27 : (Rows.historyKnownRow.lifted == Tryz.prog.liftsFinal) = true := by kernel_rfl
theorem hkJ28 : (Tryz.prog.make == some Rows.historyKnownRow.make) = true := by kernel_rfl
theorem hkJ29 : (Rows.historyKnownRow.kinds == (if Rows.historyKnownRow.domain.isEmpty then [] else Tryz.f5.params.toList.map fun t => match Tryz.prog.underlying t with | some (.int k) => some k | _ => none)) = true := by kernel_rfl
theorem hkJ30 : (Rows.historyKnownRow.pinned == Rows.historyKnownRow.pinnedBy) = true := by kernel_rfl
theorem hkJ31 : (Rows.historyKnownRow.veiled == (Tryz.f5.params.toList ++ Rows.historyKnownSpec.plain.varTypes Tryz.prog ++ Tryz.f5.resultTypes.toList).any (Tryz.prog.veiledRec ·)) = true := by kernel_rfl
theorem hkJ32 : Rows.historyKnownRow.veiledFits Tryz.prog Tryz.f5.params.toList (Tryz.f5.params.toList ++ Rows.historyKnownSpec.plain.varTypes Tryz.prog ++ Tryz.f5.resultTypes.toList) = true := by kernel_rfl
end Go.Proofs.YtdadmlonndnppaaGreatDoor
