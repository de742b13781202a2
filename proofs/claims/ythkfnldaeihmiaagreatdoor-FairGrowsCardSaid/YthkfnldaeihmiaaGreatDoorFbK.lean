/-
  Closed facts of the row.
-/
import Derived.Test.YthkfnldaeihmiaaGreatDoorRows
import Derived.KernelRfl
import Derived.JoinedOf
set_option linter.unusedSimpArgs false
set_option linter.unusedVariables false
namespace Go.Proofs.YthkfnldaeihmiaaGreatDoor
open Go
set_option maxRecDepth 100000
theorem fbJ1 : Rows.fairGrowsRow.wf (OpenSpec.ofChange Rows.fairGrowsSpec) = true := by kernel_rfl
theorem fbJ4 : Tryz.f3.params.all (Tryz.prog.readableRec ·) = true := by kernel_rfl
theorem fbJ5 : namedTie Tryz.prog Rows.fairGrowsRow.named Rows.fairGrowsSpec.vars = true := by kernel_rfl
theorem fbJ6 : (Rows.fairGrowsRow.stops == []) = true := by kernel_rfl
theorem fbJ7 : (Tryz.prog.stops == []) = true := by kernel_rfl
theorem fbJ8 : (Rows.fairGrowsRow.knobs == []) = true := by kernel_rfl
theorem fbJ9 : (Tryz.prog.stopKnobs == []) = true := by kernel_rfl
theorem fbJ14 : (Rows.fairGrowsRow.maps == (Tryz.f3.params.toList ++ Rows.fairGrowsSpec.plain.varTypes Tryz.prog).any (Tryz.prog.mapsRec ·)) = true := by kernel_rfl
theorem fbJ15 : (Rows.fairGrowsRow.ifaces == (Tryz.f3.params.toList ++ Rows.fairGrowsSpec.plain.varTypes Tryz.prog).any (Tryz.prog.ifacesRec ·)) = true := by kernel_rfl
theorem fbJ16 : (Rows.fairGrowsRow.mapsOut == Tryz.prog.mapsAmong Tryz.f3.resultTypes.toList) = true := by kernel_rfl
theorem fbJ17 : (Rows.fairGrowsRow.loops == (Tryz.f3.params.toList ++ Rows.fairGrowsSpec.plain.varTypes Tryz.prog).any (Tryz.prog.loopsFrom ·)) = true := by kernel_rfl
theorem fbJ18 : (Rows.fairGrowsRow.wideKeys == (Tryz.f3.params.toList ++ Rows.fairGrowsSpec.plain.varTypes Tryz.prog ++ Tryz.f3.resultTypes.toList).any (Tryz.prog.wideKeysFrom ·)) = true := by kernel_rfl
theorem fbJ19 : Rows.fairGrowsSpec.vars.all (Tryz.prog.varReadable ·) = true := by kernel_rfl
theorem fbJ20 : Tryz.f3.resultTypes.all (fun t => Tryz.prog.readableRec t && decide (t < Tryz.prog.types.size)) = true := by kernel_rfl
theorem fbJ21 : (Rows.fairGrowsRow.ifacesOut == Tryz.f3.resultTypes.toList.any (Tryz.prog.ifacesRec ·)) = true := by kernel_rfl
theorem fbJ22 : (Rows.fairGrowsRow.loopsOut == Tryz.f3.resultTypes.toList.any (Tryz.prog.loopsFrom ·)) = true := by kernel_rfl
theorem fbJ24 : Rows.fairGrowsRow.shortTexts.isNone = true := by kernel_rfl
theorem fbJ27 : (Rows.fairGrowsRow.lifted == Tryz.prog.liftsFinal) = true := by kernel_rfl
theorem fbJ28 : (Tryz.prog.make == some Rows.fairGrowsRow.make) = true := by kernel_rfl
theorem fbJ29 : (Rows.fairGrowsRow.kinds == (if Rows.fairGrowsRow.domain.isEmpty then [] else Tryz.f3.params.toList.map fun t => match Tryz.prog.underlying t with | some (.int k) => some k | _ => none)) = true := by kernel_rfl
theorem fbJ30 : (Rows.fairGrowsRow.pinned == Rows.fairGrowsRow.pinnedBy) = true := by kernel_rfl
theorem fbJ31 : (Rows.fairGrowsRow.veiled == (Tryz.f3.params.toList ++ Rows.fairGrowsSpec.plain.varTypes Tryz.prog ++ Tryz.f3.resultTypes.toList).any (Tryz.prog.veiledRec ·)) = true := by kernel_rfl
theorem fbJ32 : Rows.fairGrowsRow.veiledFits Tryz.prog Tryz.f3.params.toList (Tryz.f3.params.toList ++ Rows.fairGrowsSpec.plain.varTypes Tryz.prog ++ Tryz.f3.resultTypes.toList) = true := by kernel_rfl
end Go.Proofs.YthkfnldaeihmiaaGreatDoor
