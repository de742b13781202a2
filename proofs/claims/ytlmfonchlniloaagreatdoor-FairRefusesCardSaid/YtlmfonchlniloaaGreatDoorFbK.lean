/-
  Closed facts of the row.
-/
import Derived.Test.YtlmfonchlniloaaGreatDoorRows
import Derived.KernelRfl
import Derived.JoinedOf
set_option linter.unusedSimpArgs false
set_option linter.unusedVariables false
namespace Go.Proofs.YtlmfonchlniloaaGreatDoor
open Go
set_option maxRecDepth 100000
theorem fbJ1 : Rows.fairRefusesRow.wf (OpenSpec.ofChange Rows.fairRefusesSpec) = true := by kernel_rfl
theorem fbJ4 : Tryz.f3.params.all (Tryz.prog.readableRec ·) = true := by kernel_rfl
theorem fbJ5 : namedTie Tryz.prog Rows.fairRefusesRow.named Rows.fairRefusesSpec.vars = true := by kernel_rfl
theorem fbJ6 : (Rows.fairRefusesRow.stops == []) = true := by kernel_rfl
theorem fbJ7 : (Tryz.prog.stops == []) = true := by kernel_rfl
theorem fbJ8 : (Rows.fairRefusesRow.knobs == []) = true := by kernel_rfl
theorem fbJ9 : (Tryz.prog.stopKnobs == []) = true := by kernel_rfl
theorem fbJ14 : (Rows.fairRefusesRow.maps == (Tryz.f3.params.toList ++ Rows.fairRefusesSpec.plain.varTypes Tryz.prog).any (Tryz.prog.mapsRec ·)) = true := by kernel_rfl
theorem fbJ15 : (Rows.fairRefusesRow.ifaces == (Tryz.f3.params.toList ++ Rows.fairRefusesSpec.plain.varTypes Tryz.prog).any (Tryz.prog.ifacesRec ·)) = true := by kernel_rfl
theorem fbJ16 : (Rows.fairRefusesRow.mapsOut == Tryz.prog.mapsAmong Tryz.f3.resultTypes.toList) = true := by kernel_rfl
theorem fbJ17 : (Rows.fairRefusesRow.loops == (Tryz.f3.params.toList ++ Rows.fairRefusesSpec.plain.varTypes Tryz.prog).any (Tryz.prog.loopsFrom ·)) = true := by kernel_rfl
theorem fbJ18 : (Rows.fairRefusesRow.wideKeys == (Tryz.f3.params.toList ++ Rows.fairRefusesSpec.plain.varTypes Tryz.prog ++ Tryz.f3.resultTypes.toList).any (Tryz.prog.wideKeysFrom ·)) = true := by kernel_rfl
theorem fbJ19 : Rows.fairRefusesSpec.vars.all (Tryz.prog.varReadable ·) = true := by kernel_rfl
theorem fbJ20 : Tryz.f3.resultTypes.all (fun t => Tryz.prog.readableRec t && decide (t < Tryz.prog.types.size)) = true := by kernel_rfl
theorem fbJ21 : (Rows.fairRefusesRow.ifacesOut == Tryz.f3.resultTypes.toList.any (Tryz.prog.ifacesRec ·)) = true := by kernel_rfl
theorem fbJ22 : (Rows.fairRefusesRow.loopsOut == Tryz.f3.resultTypes.toList.any (Tryz.prog.loopsFrom ·)) = true := by kernel_rfl
theorem fbJ24 : Rows.fairRefusesRow.shortTexts.isNone = true := by kernel_rfl
theorem fbJ27 : (Rows.fairRefusesRow.lifted == Tryz.prog.liftsFinal) = true := by kernel_rfl
theorem fbJ28 : (Tryz.prog.make == some Rows.fairRefusesRow.make) = true := by kernel_rfl
theorem fbJ29 : (Rows.fairRefusesRow.kinds == (if Rows.fairRefusesRow.domain.isEmpty then [] else Tryz.f3.params.toList.map fun t => match Tryz.prog.underlying t with | some (.int k) => some k | _ => none)) = true := by kernel_rfl
theorem fbJ30 : (Rows.fairRefusesRow.pinned == Rows.fairRefusesRow.pinnedBy) = true := by kernel_rfl
theorem fbJ31 : (Rows.fairRefusesRow.veiled == (Tryz.f3.params.toList ++ Rows.fairRefusesSpec.plain.varTypes Tryz.prog ++ Tryz.f3.resultTypes.toList).any (Tryz.prog.veiledRec ·)) = true := by kernel_rfl
theorem fbJ32 : Rows.fairRefusesRow.veiledFits Tryz.prog Tryz.f3.params.toList (Tryz.f3.params.toList ++ Rows.fairRefusesSpec.plain.varTypes Tryz.prog ++ Tryz.f3.resultTypes.toList) = true := by kernel_rfl
end Go.Proofs.YtlmfonchlniloaaGreatDoor
