/-
  Closed facts of the row: what the functions name.
-/
import Derived.Test.YtnhnepmjdgfelaaGreatDoorFbE
import Derived.Test.YtnhnepmjdgfelaaGreatDoorRows
import Derived.JoinedOf
set_option linter.unusedSimpArgs false
set_option linter.unusedVariables false
namespace Go.Proofs.YtnhnepmjdgfelaaGreatDoor
open Go
set_option maxRecDepth 100000
theorem fbJ10 : (Rows.playRandomsRow.inPlace == Tryz.prog.inPlace 3) = true := by
 unfold Program.inPlace
 rw [clo]
 kernel_rfl
theorem fbJ11 : (Rows.playRandomsRow.unfollowed == Tryz.prog.unfollowed 3) = true := by
 unfold Program.unfollowed
 rw [clo]
 kernel_rfl
theorem fbJ12 : (Rows.playRandomsRow.recurses == Tryz.prog.recurses 3) = true := by
 unfold Program.recurses Program.unfollowed
 rw [clo]
 kernel_rfl
end Go.Proofs.YtnhnepmjdgfelaaGreatDoor
namespace Go.Proofs.YtnhnepmjdgfelaaGreatDoor
open Go
set_option maxRecDepth 100000
theorem fbJ13 : (Rows.playRandomsRow.named == Tryz.prog.varsNamed 3) = true := by
 unfold Program.varsNamed
 rw [clo]
 kernel_rfl
end Go.Proofs.YtnhnepmjdgfelaaGreatDoor
