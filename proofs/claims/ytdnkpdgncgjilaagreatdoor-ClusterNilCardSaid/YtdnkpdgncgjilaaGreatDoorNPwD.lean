/-
  The same, a proposal (4).
-/
import Derived.Test.YtdnkpdgncgjilaaGreatDoorNPwA
set_option linter.unusedSimpArgs false
set_option linter.unusedVariables false
namespace Go.Proofs
open Go.Sx
set_option maxRecDepth 1000000
set_option maxHeartbeats 0
noncomputable def q1r : Heap := ⟨3868, w8y⟩
noncomputable def q1s : Heap := ⟨4237, w8z⟩
noncomputable def q1t : List AV := [.ptr 59 0, .agg [cI 15, cI 0, cI 0, cI 0, cI 0, cI 0, .str [], cI 0, cI 0, .str [], .str [], cI 0, .str [], cI 0, cI 0, cZ, cI 7, cI 0, cI 1, cI 0, cF, cI 1, cI 0, .str []]]
noncomputable def q1u : AV := .tuple [cI 1, cZ, .slice 4236 0 1 true 0, cI 0]
end Go.Proofs
namespace Go.Proofs
open Go.Sx
set_option maxRecDepth 1000000
set_option maxHeartbeats 0
theorem j0j : endAll Tryz.tab Tryz.f124.results.toList q1u q1s (z0u cnPb (fnsO Tryz.tab z1a 2000) Tryz.tab cnPc ⟨z4v q1t, q1r, []⟩) = true := by kernel_rfl
theorem j5l : CallTo Tryz.prog Tryz.tab 124 q1t q1r [(q1u, q1s)] := by
 refine z2Q Tryz.tabOk Tryz.func124 rfl (by kernel_rfl) ?_
 show Gets Tryz.prog Tryz.tab cnPc cnPb _ _
 exact Gets.endAll Tryz.tabOk z0s j0j
end Go.Proofs
