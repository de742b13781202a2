/-
  The same, a proposal (5).
-/
import Derived.Test.YtdnkpdgncgjilaaGreatDoorNPwA
set_option linter.unusedSimpArgs false
set_option linter.unusedVariables false
namespace Go.Proofs
open Go.Sx
set_option maxRecDepth 1000000
set_option maxHeartbeats 0
noncomputable def q1v : Heap := ⟨4914, w8A⟩
noncomputable def q1w : Heap := ⟨5318, w8B⟩
noncomputable def q1x : List AV := [.ptr 258 0, .agg [cI 1, cI 0, cI 0, cI 7, cI 0, cI 3, .str [97], cI 3, cI 0, .str [], .str [], cI 0, .str [], cI 0, cI 0, cZ, cI 0, cI 0, cI 0, cI 0, cF, cI 0, cI 0, .str []]]
noncomputable def q1y : AV := .tuple [cI 1, cZ, .slice 5317 0 1 true 0, cI 0]
end Go.Proofs
namespace Go.Proofs
open Go.Sx
set_option maxRecDepth 1000000
set_option maxHeartbeats 0
theorem j0k : endAll Tryz.tab Tryz.f124.results.toList q1y q1w (z0u cnPb (fnsO Tryz.tab z1a 2000) Tryz.tab cnPc ⟨z4v q1x, q1v, []⟩) = true := by kernel_rfl
theorem j5m : CallTo Tryz.prog Tryz.tab 124 q1x q1v [(q1y, q1w)] := by
 refine z2Q Tryz.tabOk Tryz.func124 rfl (by kernel_rfl) ?_
 show Gets Tryz.prog Tryz.tab cnPc cnPb _ _
 exact Gets.endAll Tryz.tabOk z0s j0k
end Go.Proofs
