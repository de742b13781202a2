/-
  The chapter's examples work: a closed call by the kernel.
-/
import Derived.Test.YtlmfonchlniloaaGreatDoorSxTab
import Derived.Test.YtlmfonchlniloaaGreatDoorSxG
import Derived.Test.YtlmfonchlniloaaGreatDoorSxI
set_option linter.unusedSimpArgs false
set_option linter.unusedVariables false
namespace Go.Proofs
open Go.Sx
/-- the one table that the examples read -/
def crcFours : List Int := [0, 498536548, 997073096, 651767980, 1994146192, 1802195444, 1303535960, 1342533948, 3988292384, 4027552580, 3604390888, 3412177804, 2607071920, 2262029012, 2685067896, 3183342108]
noncomputable def gH0 : Heap := ⟨10, T.e.set 9 (some (.big 838 16 (crcFours.map fun x => .int .u32 x)))⟩
end Go.Proofs

namespace Go.Proofs
open Go.Sx
set_option maxRecDepth 1000000
set_option maxHeartbeats 0
theorem works_true : trueO ((fns Tryz.tab 2000).call 13 [] gH0) = true := by kernel_rfl
end Go.Proofs
