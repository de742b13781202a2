/-
  Closed facts of the row: what the functions name.
-/
import Derived.Test.YthfkhidmeeajfaaGreatDoorFbE
import Derived.Test.YthfkhidmeeajfaaGreatDoorRows
import Derived.JoinedOf
set_option linter.unusedSimpArgs false
set_option linter.unusedVariables false
namespace Go.Proofs.YthfkhidmeeajfaaGreatDoor
open Go
set_option maxRecDepth 100000
theorem k9G : (Rows.playTextsRow.inPlace == Tryz.prog.inPlace 3) = true := by
 unfold Program.inPlace
 rw [clo]
 kernel_rfl
theorem k9H : (Rows.playTextsRow.unfollowed == Tryz.prog.unfollowed 3) = true := by
 unfold Program.unfollowed
 rw [clo]
 kernel_rfl
theorem k9I : (Rows.playTextsRow.recurses == Tryz.prog.recurses 3) = true := by
 unfold Program.recurses Program.unfollowed
 rw [clo]
 kernel_rfl
end Go.Proofs.YthfkhidmeeajfaaGreatDoor
namespace Go.Proofs.YthfkhidmeeajfaaGreatDoor
open Go
set_option maxRecDepth 100000
theorem k9J : (Rows.playTextsRow.named == Tryz.prog.varsNamed 3) = true := by
 unfold Program.varsNamed
 rw [clo]
 kernel_rfl
end Go.Proofs.YthfkhidmeeajfaaGreatDoor
