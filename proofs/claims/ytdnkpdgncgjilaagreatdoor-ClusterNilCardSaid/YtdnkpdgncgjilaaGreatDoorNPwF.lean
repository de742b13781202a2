/-
  The same, a proposal (6).
-/
import Derived.Test.YtdnkpdgncgjilaaGreatDoorNPwA
set_option linter.unusedSimpArgs false
set_option linter.unusedVariables false
namespace Go.Proofs
open Go.Sx
set_option maxRecDepth 1000000
set_option maxHeartbeats 0
noncomputable def q1z : Heap := ⟨6055, w8C⟩
noncomputable def q1A : Heap := ⟨6408, w8D⟩
noncomputable def q1B : List AV := [.ptr 59 0, .agg [cI 15, cI 0, cI 0, cI 0, cI 0, cI 0, .str [], cI 0, cI 0, .str [], .str [], cI 0, .str [], cI 0, cI 0, cZ, cI 7, cI 0, cI 3, cI 0, cF, cI 1, cI 0, .str []]]
noncomputable def q1C : AV := .tuple [cI 2, cZ, .slice 6407 0 1 true 0, cI 0]
end Go.Proofs
namespace Go.Proofs
open Go.Sx
set_option maxRecDepth 1000000
set_option maxHeartbeats 0
theorem j0l : endAll Tryz.tab Tryz.f124.results.toList q1C q1A (z0u cnPb (fnsO Tryz.tab z1a 2000) Tryz.tab cnPc ⟨z4v q1B, q1z, []⟩) = true := by kernel_rfl
theorem j5n : CallTo Tryz.prog Tryz.tab 124 q1B q1z [(q1C, q1A)] := by
 refine z2Q Tryz.tabOk Tryz.func124 rfl (by kernel_rfl) ?_
 show Gets Tryz.prog Tryz.tab cnPc cnPb _ _
 exact Gets.endAll Tryz.tabOk z0s j0l
end Go.Proofs
