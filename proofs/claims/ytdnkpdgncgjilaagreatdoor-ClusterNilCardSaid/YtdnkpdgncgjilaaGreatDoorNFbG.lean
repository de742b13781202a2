/-
  Closed facts of the row: what the functions name.
-/
import Derived.Test.YtdnkpdgncgjilaaGreatDoorNFbE
import Derived.Test.YtdnkpdgncgjilaaGreatDoorRows
import Derived.JoinedOf
set_option linter.unusedSimpArgs false
set_option linter.unusedVariables false
namespace Go.Proofs.YtdnkpdgncgjilaaGreatDoor
open Go
set_option maxRecDepth 100000
theorem w7p : (Rows.clusterNilRow.inPlace == Tryz.prog.inPlace 3) = true := by
 unfold Program.inPlace
 rw [clo]
 kernel_rfl
theorem w7q : (Rows.clusterNilRow.unfollowed == Tryz.prog.unfollowed 3) = true := by
 unfold Program.unfollowed
 rw [clo]
 kernel_rfl
theorem w7r : (Rows.clusterNilRow.recurses == Tryz.prog.recurses 3) = true := by
 unfold Program.recurses Program.unfollowed
 rw [clo]
 kernel_rfl
end Go.Proofs.YtdnkpdgncgjilaaGreatDoor
namespace Go.Proofs.YtdnkpdgncgjilaaGreatDoor
open Go
set_option maxRecDepth 100000
theorem w7s : (Rows.clusterNilRow.named == Tryz.prog.varsNamed 3) = true := by
 unfold Program.varsNamed
 rw [clo]
 kernel_rfl
end Go.Proofs.YtdnkpdgncgjilaaGreatDoor
