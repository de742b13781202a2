/-
  Closed facts of the row.
-/
import Derived.Test.YtnhnepmjdgfelaaGreatDoorRows
import Derived.KernelRfl
import Derived.JoinedOf
set_option linter.unusedSimpArgs false
set_option linter.unusedVariables false
namespace Go.Proofs.YtnhnepmjdgfelaaGreatDoor
open Go
set_option maxRecDepth 100000
theorem fbJ1 : Rows.playRandomsRow.wf (OpenSpec.ofChange Rows.playRandomsSpec) = true := by kernel_rfl
theorem fbJ4 : Tryz.f3.params.all (Tryz.prog.readableRec ·) = true := by kernel_rfl
theorem fbJ5 : namedTie Tryz.prog Rows.playRandomsRow.named Rows.playRandomsSpec.vars = true := by kernel_rfl
theorem fbJ6 : (Rows.playRandomsRow.stops == []) = true := by kernel_rfl
theorem fbJ7 : (Tryz.prog.stops == []) = true := by kernel_rfl
theorem fbJ8 : (Rows.playRandomsRow.knobs == []) = true := by kernel_rfl
theorem fbJ9 : (Tryz.prog.stopKnobs == []) = true := by kernel_rfl
theorem fbJ14 : (Rows.playRandomsRow.maps == (Tryz.f3.params.toList ++ Rows.playRandomsSpec.plain.varTypes Tryz.prog).any (Tryz.prog.mapsRec ·)) = true := by kernel_rfl
theorem fbJ15 : (Rows.playRandomsRow.ifaces == (Tryz.f3.params.toList ++ Rows.playRandomsSpec.plain.varTypes Tryz.prog).any (Tryz.prog.ifacesRec ·)) = true := by kernel_rfl
theorem fbJ16 : (Rows.playRandomsRow.mapsOut == Tryz.prog.mapsAmong Tryz.f3.resultTypes.toList) = true := by kernel_rfl
theorem fbJ17 : (Rows.playRandomsRow.loops == (Tryz.f3.params.toList ++ Rows.playRandomsSpec.plain.varTypes Tryz.prog).any (Tryz.prog.loopsFrom ·)) = true := by kernel_rfl
theorem fbJ18 : (Rows.playRandomsRow.wideKeys == (Tryz.f3.params.toList ++ Rows.playRandomsSpec.plain.varTypes Tryz.prog ++ Tryz.f3.resultTypes.toList).any (Tryz.prog.wideKeysFrom ·)) = true := by kernel_rfl
theorem fbJ19 : Rows.playRandomsSpec.vars.all (Tryz.prog.varReadable ·) = true := by kernel_rfl
theorem fbJ20 : Tryz.f3.resultTypes.all (fun t => Tryz.prog.readableRec t && decide (t < Tryz.prog.types.size)) = true := by kernel_rfl
theorem fbJ21 : (Rows.playRandomsRow.ifacesOut == Tryz.f3.resultTypes.toList.any (Tryz.prog.ifacesRec ·)) = true := by kernel_rfl
theorem fbJ22 : (Rows.playRandomsRow.loopsOut == Tryz.f3.resultTypes.toList.any (Tryz.prog.loopsFrom ·)) = true := by kernel_rfl
theorem fbJ24 : Rows.playRandomsRow.shortTexts.isNone = true := by kernel_rfl
theorem fbJ27 : (Rows.playRandomsRow.lifted == Tryz.prog.liftsFinal) = true := by kernel_rfl
theorem fbJ28 : (Tryz.prog.make == some Rows.playRandomsRow.make) = true := by kernel_rfl
theorem fbJ29 : (Rows.playRandomsRow.kinds == (if Rows.playRandomsRow.domain.isEmpty then [] else Tryz.f3.params.toList.map fun t => match Tryz.prog.underlying t with | some (.int k) => some k | _ => none)) = true := by kernel_rfl
theorem fbJ30 : (Rows.playRandomsRow.pinned == Rows.playRandomsRow.pinnedBy) = true := by kernel_rfl
theorem fbJ31 : (Rows.playRandomsRow.veiled == (Tryz.f3.params.toList ++ Rows.playRandomsSpec.plain.varTypes Tryz.prog ++ Tryz.f3.resultTypes.toList).any (Tryz.prog.veiledRec ·)) = true := by kernel_rfl
theorem fbJ32 : Rows.playRandomsRow.veiledFits Tryz.prog Tryz.f3.params.toList (Tryz.f3.params.toList ++ Rows.playRandomsSpec.plain.varTypes Tryz.prog ++ Tryz.f3.resultTypes.toList) = true := by kernel_rfl
end Go.Proofs.YtnhnepmjdgfelaaGreatDoor
