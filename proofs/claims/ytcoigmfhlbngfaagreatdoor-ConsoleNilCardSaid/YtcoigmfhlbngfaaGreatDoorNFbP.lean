/-
  A closed fact of the tie.
-/
import Derived.Test.YtcoigmfhlbngfaaGreatDoorRows
import Derived.LaidByTextLater
import Derived.SevenTiedAt
import Derived.LaidSub
import Derived.LaidOnce
import Derived.KernelRfl
import Derived.Test.YtcoigmfhlbngfaaGreatDoorNFbF
set_option linter.unusedSimpArgs false
set_option linter.unusedVariables false
namespace Go.Proofs.YtcoigmfhlbngfaaGreatDoor
open Go
set_option maxRecDepth 100000
theorem k2P : Tryz.prog.wordedOn "unicode/utf8.first" (kindTail .pinned) = true := by kernel_rfl
theorem k2Q : (Tryz.prog.kindBase "unicode/utf8.first").isNone = true := by kernel_rfl
theorem fbT8 : Tryz.pinned.checked.prog.pinnedFits "unicode/utf8.first" = true := by
 show Tryz.prog.pinnedFits "unicode/utf8.first" = true
 unfold Program.pinnedFits
 rw [k2P, k2Q, q4k]
 kernel_rfl
end Go.Proofs.YtcoigmfhlbngfaaGreatDoor
