/-
  Closed facts of the row.
-/
import Derived.Test.YtdnkpdgncgjilaaGreatDoorRows
import Derived.KernelRfl
import Derived.JoinedOf
set_option linter.unusedSimpArgs false
set_option linter.unusedVariables false
namespace Go.Proofs.YtdnkpdgncgjilaaGreatDoor
open Go
set_option maxRecDepth 100000
theorem fbJ1 : Rows.clusterNilRow.wf (OpenSpec.ofChange Rows.clusterNilSpec) = true := by kernel_rfl
theorem fbJ4 : Tryz.f3.params.all (Tryz.prog.readableRec ·) = true := by kernel_rfl
theorem fbJ5 : namedTie Tryz.prog Rows.clusterNilRow.named Rows.clusterNilSpec.vars = true := by kernel_rfl
theorem fbJ6 : (Rows.clusterNilRow.stops == []) = true := by kernel_rfl
theorem fbJ7 : (Tryz.prog.stops == []) = true := by kernel_rfl
theorem fbJ8 : (Rows.clusterNilRow.knobs == []) = true := by kernel_rfl
theorem fbJ9 : (Tryz.prog.stopKnobs == []) = true := by kernel_rfl
theorem w7K : (Rows.clusterNilRow.maps == (Tryz.f3.params.toList ++ Rows.clusterNilSpec.plain.varTypes Tryz.prog).any (Tryz.prog.mapsRec ·)) = true := by kernel_rfl
theorem w7L : (Rows.clusterNilRow.ifaces == (Tryz.f3.params.toList ++ Rows.clusterNilSpec.plain.varTypes Tryz.prog).any (Tryz.prog.ifacesRec ·)) = true := by kernel_rfl
theorem w7M : (Rows.clusterNilRow.mapsOut == Tryz.prog.mapsAmong Tryz.f3.resultTypes.toList) = true := by kernel_rfl
theorem w7N : (Rows.clusterNilRow.loops == (Tryz.f3.params.toList ++ Rows.clusterNilSpec.plain.varTypes Tryz.prog).any (Tryz.prog.loopsFrom ·)) = true := by kernel_rfl
theorem w7O : (Rows.clusterNilRow.wideKeys == (Tryz.f3.params.toList ++ Rows.clusterNilSpec.plain.varTypes Tryz.prog ++ Tryz.f3.resultTypes.toList).any (Tryz.prog.wideKeysFrom ·)) = true := by kernel_rfl
theorem w7P : Rows.clusterNilSpec.vars.all (Tryz.prog.varReadable ·) = true := by kernel_rfl
theorem w7Q : Tryz.f3.resultTypes.all (fun t => Tryz.prog.readableRec t && decide (t < Tryz.prog.types.size)) = true := by kernel_rfl
theorem w7R : (Rows.clusterNilRow.ifacesOut == Tryz.f3.resultTypes.toList.any (Tryz.prog.ifacesRec ·)) = true := by kernel_rfl
theorem w7S : (Rows.clusterNilRow.loopsOut == Tryz.f3.resultTypes.toList.any (Tryz.prog.loopsFrom ·)) = true := by kernel_rfl
theorem w7T : Rows.clusterNilRow.shortTexts.isNone = true := by kernel_rfl
theorem w7U : (Rows.clusterNilRow.lifted == Tryz.prog.liftsFinal) = true := by kernel_rfl
theorem w7V : (Tryz.prog.make == some Rows.clusterNilRow.make) = true := by kernel_rfl
theorem w7W : (Rows.clusterNilRow.kinds == (if Rows.clusterNilRow.domain.isEmpty then [] else Tryz.f3.params.toList.map fun t => match Tryz.prog.underlying t with | some (.int k) => some k | _ => none)) = true := by kernel_rfl
theorem w7X : (Rows.clusterNilRow.pinned == Rows.clusterNilRow.pinnedBy) = true := by kernel_rfl
theorem w7Y : (Rows.clusterNilRow.veiled == (Tryz.f3.params.toList ++ Rows.clusterNilSpec.plain.varTypes Tryz.prog ++ Tryz.f3.resultTypes.toList).any (Tryz.prog.veiledRec ·)) = true := by kernel_rfl
theorem w7Z : Rows.clusterNilRow.veiledFits Tryz.prog Tryz.f3.params.toList (Tryz.f3.params.toList ++ Rows.clusterNilSpec.plain.varTypes Tryz.prog ++ Tryz.f3.resultTypes.toList) = true := by kernel_rfl
end Go.Proofs.YtdnkpdgncgjilaaGreatDoor
