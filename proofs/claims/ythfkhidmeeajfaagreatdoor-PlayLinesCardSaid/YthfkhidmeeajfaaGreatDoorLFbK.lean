/-
  Closed facts of the row.
-/
import Derived.Test.YthfkhidmeeajfaaGreatDoorRows
import Derived.KernelRfl
import Derived.JoinedOf
set_option linter.unusedSimpArgs false
set_option linter.unusedVariables false
namespace Go.Proofs.YthfkhidmeeajfaaGreatDoor
open Go
set_option maxRecDepth 100000
theorem fbJ1 : Rows.playLinesRow.wf (OpenSpec.ofChange Rows.playLinesSpec) = true := by kernel_rfl
theorem fbJ4 : Tryz.f4.params.all (Tryz.prog.readableRec ·) = true := by kernel_rfl
theorem fbJ5 : namedTie Tryz.prog Rows.playLinesRow.named Rows.playLinesSpec.vars = true := by kernel_rfl
theorem fbJ6 : (Rows.playLinesRow.stops == []) = true := by kernel_rfl
theorem fbJ7 : (Tryz.prog.stops == []) = true := by kernel_rfl
theorem fbJ8 : (Rows.playLinesRow.knobs == []) = true := by kernel_rfl
theorem fbJ9 : (Tryz.prog.stopKnobs == []) = true := by kernel_rfl
theorem k8p : (Rows.playLinesRow.maps == (Tryz.f4.params.toList ++ Rows.playLinesSpec.plain.varTypes Tryz.prog).any (Tryz.prog.mapsRec ·)) = true := by kernel_rfl
theorem k8q : (Rows.playLinesRow.ifaces == (Tryz.f4.params.toList ++ Rows.playLinesSpec.plain.varTypes Tryz.prog).any (Tryz.prog.ifacesRec ·)) = true := by kernel_rfl
theorem k8r : (Rows.playLinesRow.mapsOut == Tryz.prog.mapsAmong Tryz.f4.resultTypes.toList) = true := by kernel_rfl
theorem k8s : (Rows.playLinesRow.loops == (Tryz.f4.params.toList ++ Rows.playLinesSpec.plain.varTypes Tryz.prog).any (Tryz.prog.loopsFrom ·)) = true := by kernel_rfl
theorem k8t : (Rows.playLinesRow.wideKeys == (Tryz.f4.params.toList ++ Rows.playLinesSpec.plain.varTypes Tryz.prog ++ Tryz.f4.resultTypes.toList).any (Tryz.prog.wideKeysFrom ·)) = true := by kernel_rfl
theorem k8u : Rows.playLinesSpec.vars.all (Tryz.prog.varReadable ·) = true := by kernel_rfl
theorem k8v : Tryz.f4.resultTypes.all (fun t => Tryz.prog.readableRec t && decide (t < Tryz.prog.types.size)) = true := by kernel_rfl
theorem k8w : (Rows.playLinesRow.ifacesOut == Tryz.f4.resultTypes.toList.any (Tryz.prog.ifacesRec ·)) = true := by kernel_rfl
theorem k8x : (Rows.playLinesRow.loopsOut == Tryz.f4.resultTypes.toList.any (Tryz.prog.loopsFrom ·)) = true := by kernel_rfl
theorem k8y : Rows.playLinesRow.shortTexts.isNone = true := by kernel_rfl
theorem k8z : (Rows.playLinesRow.lifted == Tryz.prog.liftsFinal) = true := by kernel_rfl
theorem k8A : (Tryz.prog.make == some Rows.playLinesRow.make) = true := by kernel_rfl
theorem k8B : (Rows.playLinesRow.kinds == (if Rows.playLinesRow.domain.isEmpty then [] else Tryz.f4.params.toList.map fun t => match Tryz.prog.underlying t with | some (.int k) => some k | _ => none)) = true := by kernel_rfl
theorem k8C : (Rows.playLinesRow.pinned == Rows.playLinesRow.pinnedBy) = true := by kernel_rfl
theorem k8D : (Rows.playLinesRow.veiled == (Tryz.f4.params.toList ++ Rows.playLinesSpec.plain.varTypes Tryz.prog ++ Tryz.f4.resultTypes.toList).any (Tryz.prog.veiledRec ·)) = true := by kernel_rfl
theorem k8E : Rows.playLinesRow.veiledFits Tryz.prog Tryz.f4.params.toList (Tryz.f4.params.toList ++ Rows.playLinesSpec.plain.varTypes Tryz.prog ++ Tryz.f4.resultTypes.toList) = true := by kernel_rfl
end Go.Proofs.YthfkhidmeeajfaaGreatDoor
