/-
  Closed facts of the row.
-/
import Derived.Test.YthfkhidmeeajfaaGreatDoorRows
import Derived.KernelRfl
import Derived.JoinedOf
set_option linter.unusedSimpArgs false
set_option linter.unusedVariables false
namespace Go.Proofs.YthfkhidmeeajfaaGreatDoor
open Go
set_option maxRecDepth 100000
theorem fbJ1 : Rows.playTextsRow.wf (OpenSpec.ofChange Rows.playTextsSpec) = true := by kernel_rfl
theorem fbJ4 : Tryz.f3.params.all (Tryz.prog.readableRec ·) = true := by kernel_rfl
theorem fbJ5 : namedTie Tryz.prog Rows.playTextsRow.named Rows.playTextsSpec.vars = true := by kernel_rfl
theorem fbJ6 : (Rows.playTextsRow.stops == []) = true := by kernel_rfl
theorem fbJ7 : (Tryz.prog.stops == []) = true := by kernel_rfl
theorem fbJ8 : (Rows.playTextsRow.knobs == []) = true := by kernel_rfl
theorem fbJ9 : (Tryz.prog.stopKnobs == []) = true := by kernel_rfl
theorem w0b : (Rows.playTextsRow.maps == (Tryz.f3.params.toList ++ Rows.playTextsSpec.plain.varTypes Tryz.prog).any (Tryz.prog.mapsRec ·)) = true := by kernel_rfl
theorem w0c : (Rows.playTextsRow.ifaces == (Tryz.f3.params.toList ++ Rows.playTextsSpec.plain.varTypes Tryz.prog).any (Tryz.prog.ifacesRec ·)) = true := by kernel_rfl
theorem w0d : (Rows.playTextsRow.mapsOut == Tryz.prog.mapsAmong Tryz.f3.resultTypes.toList) = true := by kernel_rfl
theorem w0e : (Rows.playTextsRow.loops == (Tryz.f3.params.toList ++ Rows.playTextsSpec.plain.varTypes Tryz.prog).any (Tryz.prog.loopsFrom ·)) = true := by kernel_rfl
theorem w0f : (Rows.playTextsRow.wideKeys == (Tryz.f3.params.toList ++ Rows.playTextsSpec.plain.varTypes Tryz.prog ++ Tryz.f3.resultTypes.toList).any (Tryz.prog.wideKeysFrom ·)) = true := by kernel_rfl
theorem w0g : Rows.playTextsSpec.vars.all (Tryz.prog.varReadable ·) = true := by kernel_rfl
theorem w0h : Tryz.f3.resultTypes.all (fun t => Tryz.prog.readableRec t && decide (t < Tryz.prog.types.size)) = true := by kernel_rfl
theorem w0i : (Rows.playTextsRow.ifacesOut == Tryz.f3.resultTypes.toList.any (Tryz.prog.ifacesRec ·)) = true := by kernel_rfl
theorem w0j : (Rows.playTextsRow.loopsOut == Tryz.f3.resultTypes.toList.any (Tryz.prog.loopsFrom ·)) = true := by kernel_rfl
theorem w0k : Rows.playTextsRow.shortTexts.isNone = true := by kernel_rfl
theorem w0l : (Rows.playTextsRow.lifted == Tryz.prog.liftsFinal) = true := by kernel_rfl
theorem w0m : (Tryz.prog.make == some Rows.playTextsRow.make) = true := by kernel_rfl
theorem w0n : (Rows.playTextsRow.kinds == (if Rows.playTextsRow.domain.isEmpty then [] else Tryz.f3.params.toList.map fun t => match Tryz.prog.underlying t with | some (.int k) => some k | _ => none)) = true := by kernel_rfl
theorem w0o : (Rows.playTextsRow.pinned == Rows.playTextsRow.pinnedBy) = true := by kernel_rfl
theorem w0p : (Rows.playTextsRow.veiled == (Tryz.f3.params.toList ++ Rows.playTextsSpec.plain.varTypes Tryz.prog ++ Tryz.f3.resultTypes.toList).any (Tryz.prog.veiledRec ·)) = true := by kernel_rfl
theorem w0q : Rows.playTextsRow.veiledFits Tryz.prog Tryz.f3.params.toList (Tryz.f3.params.toList ++ Rows.playTextsSpec.plain.varTypes Tryz.prog ++ Tryz.f3.resultTypes.toList) = true := by kernel_rfl
end Go.Proofs.YthfkhidmeeajfaaGreatDoor
