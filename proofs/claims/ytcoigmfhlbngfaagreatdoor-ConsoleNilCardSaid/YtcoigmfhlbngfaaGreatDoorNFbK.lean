/-
  Closed facts of the row.
-/
import Derived.Test.YtcoigmfhlbngfaaGreatDoorRows
import Derived.KernelRfl
import Derived.JoinedOf
set_option linter.unusedSimpArgs false
set_option linter.unusedVariables false
namespace Go.Proofs.YtcoigmfhlbngfaaGreatDoor
open Go
set_option maxRecDepth 100000
theorem fbJ1 : Rows.consoleNilRow.wf (OpenSpec.ofChange Rows.consoleNilSpec) = true := by kernel_rfl
theorem fbJ4 : Tryz.f3.params.all (Tryz.prog.readableRec ·) = true := by kernel_rfl
theorem fbJ5 : namedTie Tryz.prog Rows.consoleNilRow.named Rows.consoleNilSpec.vars = true := by kernel_rfl
theorem fbJ6 : (Rows.consoleNilRow.stops == []) = true := by kernel_rfl
theorem fbJ7 : (Tryz.prog.stops == []) = true := by kernel_rfl
theorem fbJ8 : (Rows.consoleNilRow.knobs == []) = true := by kernel_rfl
theorem fbJ9 : (Tryz.prog.stopKnobs == []) = true := by kernel_rfl
theorem k2y : (Rows.consoleNilRow.maps == (Tryz.f3.params.toList ++ Rows.consoleNilSpec.plain.varTypes Tryz.prog).any (Tryz.prog.mapsRec ·)) = true := by kernel_rfl
theorem k2z : (Rows.consoleNilRow.ifaces == (Tryz.f3.params.toList ++ Rows.consoleNilSpec.plain.varTypes Tryz.prog).any (Tryz.prog.ifacesRec ·)) = true := by kernel_rfl
theorem k2A : (Rows.consoleNilRow.mapsOut == Tryz.prog.mapsAmong Tryz.f3.resultTypes.toList) = true := by kernel_rfl
theorem k2B : (Rows.consoleNilRow.loops == (Tryz.f3.params.toList ++ Rows.consoleNilSpec.plain.varTypes Tryz.prog).any (Tryz.prog.loopsFrom ·)) = true := by kernel_rfl
theorem k2C : (Rows.consoleNilRow.wideKeys == (Tryz.f3.params.toList ++ Rows.consoleNilSpec.plain.varTypes Tryz.prog ++ Tryz.f3.resultTypes.toList).any (Tryz.prog.wideKeysFrom ·)) = true := by kernel_rfl
theorem k2D : Rows.consoleNilSpec.vars.all (Tryz.prog.varReadable ·) = true := by kernel_rfl
theorem k2E : Tryz.f3.resultTypes.all (fun t => Tryz.prog.readableRec t && decide (t < Tryz.prog.types.size)) = true := by kernel_rfl
theorem k2F : (Rows.consoleNilRow.ifacesOut == Tryz.f3.resultTypes.toList.any (Tryz.prog.ifacesRec ·)) = true := by kernel_rfl
theorem k2G : (Rows.consoleNilRow.loopsOut == Tryz.f3.resultTypes.toList.any (Tryz.prog.loopsFrom ·)) = true := by kernel_rfl
theorem k2H : Rows.consoleNilRow.shortTexts.isNone = true := by kernel_rfl
theorem k2I : (Rows.consoleNilRow.lifted == Tryz.prog.liftsFinal) = true := by kernel_rfl
theorem k2J : (Tryz.prog.make == some Rows.consoleNilRow.make) = true := by kernel_rfl
theorem k2K : (Rows.consoleNilRow.kinds == (if Rows.consoleNilRow.domain.isEmpty then [] else Tryz.f3.params.toList.map fun t => match Tryz.prog.underlying t with | some (.int k) => some k | _ => none)) = true := by kernel_rfl
theorem k2L : (Rows.consoleNilRow.pinned == Rows.consoleNilRow.pinnedBy) = true := by kernel_rfl
theorem k2M : (Rows.consoleNilRow.veiled == (Tryz.f3.params.toList ++ Rows.consoleNilSpec.plain.varTypes Tryz.prog ++ Tryz.f3.resultTypes.toList).any (Tryz.prog.veiledRec ·)) = true := by kernel_rfl
theorem k2N : Rows.consoleNilRow.veiledFits Tryz.prog Tryz.f3.params.toList (Tryz.f3.params.toList ++ Rows.consoleNilSpec.plain.varTypes Tryz.prog ++ Tryz.f3.resultTypes.toList) = true := by kernel_rfl
end Go.Proofs.YtcoigmfhlbngfaaGreatDoor
