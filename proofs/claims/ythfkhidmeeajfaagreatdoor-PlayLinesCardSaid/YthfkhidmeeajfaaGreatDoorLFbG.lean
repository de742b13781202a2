/-
  Closed facts of the row: what the functions name.
-/
import Derived.Test.YthfkhidmeeajfaaGreatDoorLFbE
import Derived.Test.YthfkhidmeeajfaaGreatDoorRows
import Derived.JoinedOf
set_option linter.unusedSimpArgs false
set_option linter.unusedVariables false
namespace Go.Proofs.YthfkhidmeeajfaaGreatDoor
open Go
set_option maxRecDepth 100000
theorem k7U : (Rows.playLinesRow.inPlace == Tryz.prog.inPlace 4) = true := by
 unfold Program.inPlace
 rw [clo]
 kernel_rfl
theorem k7V : (Rows.playLinesRow.unfollowed == Tryz.prog.unfollowed 4) = true := by
 unfold Program.unfollowed
 rw [clo]
 kernel_rfl
theorem k7W : (Rows.playLinesRow.recurses == Tryz.prog.recurses 4) = true := by
 unfold Program.recurses Program.unfollowed
 rw [clo]
 kernel_rfl
end Go.Proofs.YthfkhidmeeajfaaGreatDoor
namespace Go.Proofs.YthfkhidmeeajfaaGreatDoor
open Go
set_option maxRecDepth 100000
theorem k7X : (Rows.playLinesRow.named == Tryz.prog.varsNamed 4) = true := by
 unfold Program.varsNamed
 rw [clo]
 kernel_rfl
end Go.Proofs.YthfkhidmeeajfaaGreatDoor
