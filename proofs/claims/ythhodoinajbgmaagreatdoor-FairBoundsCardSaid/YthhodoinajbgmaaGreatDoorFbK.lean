/-
  Closed facts of the row.
-/
import Derived.Test.YthhodoinajbgmaaGreatDoorRows
import Derived.KernelRfl
import Derived.JoinedOf
set_option linter.unusedSimpArgs false
set_option linter.unusedVariables false
namespace Go.Proofs.YthhodoinajbgmaaGreatDoor
open Go
set_option maxRecDepth 100000
theorem fbJ1 : Rows.fairBoundsRow.wf (OpenSpec.ofChange Rows.fairBoundsSpec) = true := by kernel_rfl
theorem fbJ4 : Tryz.f3.params.all (Tryz.prog.readableRec ·) = true := by kernel_rfl
theorem fbJ5 : namedTie Tryz.prog Rows.fairBoundsRow.named Rows.fairBoundsSpec.vars = true := by kernel_rfl
theorem fbJ6 : (Rows.fairBoundsRow.stops == []) = true := by kernel_rfl
theorem fbJ7 : (Tryz.prog.stops == []) = true := by kernel_rfl
theorem fbJ8 : (Rows.fairBoundsRow.knobs == []) = true := by kernel_rfl
theorem fbJ9 : (Tryz.prog.stopKnobs == []) = true := by kernel_rfl
theorem fbJ14 : (Rows.fairBoundsRow.maps == (Tryz.f3.params.toList ++ Rows.fairBoundsSpec.plain.varTypes Tryz.prog).any (Tryz.prog.mapsRec ·)) = true := by kernel_rfl
theorem fbJ15 : (Rows.fairBoundsRow.ifaces == (Tryz.f3.params.toList ++ Rows.fairBoundsSpec.plain.varTypes Tryz.prog).any (Tryz.prog.ifacesRec ·)) = true := by kernel_rfl
theorem fbJ16 : (Rows.fairBoundsRow.mapsOut == Tryz.prog.mapsAmong Tryz.f3.resultTypes.toList) = true := by kernel_rfl
theorem fbJ17 : (Rows.fairBoundsRow.loops == (Tryz.f3.params.toList ++ Rows.fairBoundsSpec.plain.varTypes Tryz.prog).any (Tryz.prog.loopsFrom ·)) = true := by kernel_rfl
theorem fbJ18 : (Rows.fairBoundsRow.wideKeys == (Tryz.f3.params.toList ++ Rows.fairBoundsSpec.plain.varTypes Tryz.prog ++ Tryz.f3.resultTypes.toList).any (Tryz.prog.wideKeysFrom ·)) = true := by kernel_rfl
theorem fbJ19 : Rows.fairBoundsSpec.vars.all (Tryz.prog.varReadable ·) = true := by kernel_rfl
theorem fbJ20 : Tryz.f3.resultTypes.all (fun t => Tryz.prog.readableRec t && decide (t < Tryz.prog.types.size)) = true := by kernel_rfl
theorem fbJ21 : (Rows.fairBoundsRow.ifacesOut == Tryz.f3.resultTypes.toList.any (Tryz.prog.ifacesRec ·)) = true := by kernel_rfl
theorem fbJ22 : (Rows.fairBoundsRow.loopsOut == Tryz.f3.resultTypes.toList.any (Tryz.prog.loopsFrom ·)) = true := by kernel_rfl
theorem fbJ24 : Rows.fairBoundsRow.shortTexts.isNone = true := by kernel_rfl
theorem fbJ27 : (Rows.fairBoundsRow.lifted == Tryz.prog.liftsFinal) = true := by kernel_rfl
theorem fbJ28 : (Tryz.prog.make == some Rows.fairBoundsRow.make) = true := by kernel_rfl
theorem fbJ29 : (Rows.fairBoundsRow.kinds == (if Rows.fairBoundsRow.domain.isEmpty then [] else Tryz.f3.params.toList.map fun t => match Tryz.prog.underlying t with | some (.int k) => some k | _ => none)) = true := by kernel_rfl
theorem fbJ30 : (Rows.fairBoundsRow.pinned == Rows.fairBoundsRow.pinnedBy) = true := by kernel_rfl
theorem fbJ31 : (Rows.fairBoundsRow.veiled == (Tryz.f3.params.toList ++ Rows.fairBoundsSpec.plain.varTypes Tryz.prog ++ Tryz.f3.resultTypes.toList).any (Tryz.prog.veiledRec ·)) = true := by kernel_rfl
theorem fbJ32 : Rows.fairBoundsRow.veiledFits Tryz.prog Tryz.f3.params.toList (Tryz.f3.params.toList ++ Rows.fairBoundsSpec.plain.varTypes Tryz.prog ++ Tryz.f3.resultTypes.toList) = true := by kernel_rfl
end Go.Proofs.YthhodoinajbgmaaGreatDoor
