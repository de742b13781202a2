/-
  The same, a proposal (3).
-/
import Derived.Test.YtdnkpdgncgjilaaGreatDoorNPwA
set_option linter.unusedSimpArgs false
set_option linter.unusedVariables false
namespace Go.Proofs
open Go.Sx
set_option maxRecDepth 1000000
set_option maxHeartbeats 0
noncomputable def q1n : Heap := ⟨2875, w8w⟩
noncomputable def q1o : Heap := ⟨3205, w8x⟩
noncomputable def q1p : List AV := [.ptr 258 0, .agg [cI 1, cI 0, cI 0, cI 7, cI 0, cI 1, .str [97], cI 3, cI 0, .str [], .str [], cI 0, .str [], cI 0, cI 0, cZ, cI 0, cI 0, cI 0, cI 0, cF, cI 0, cI 0, .str []]]
noncomputable def q1q : AV := .tuple [cI 0, cZ, .slice 3204 0 1 true 0, cI 0]
end Go.Proofs
namespace Go.Proofs
open Go.Sx
set_option maxRecDepth 1000000
set_option maxHeartbeats 0
theorem j0i : endAll Tryz.tab Tryz.f124.results.toList q1q q1o (z0u cnPb (fnsO Tryz.tab z1a 2000) Tryz.tab cnPc ⟨z4v q1p, q1n, []⟩) = true := by kernel_rfl
theorem j5k : CallTo Tryz.prog Tryz.tab 124 q1p q1n [(q1q, q1o)] := by
 refine z2Q Tryz.tabOk Tryz.func124 rfl (by kernel_rfl) ?_
 show Gets Tryz.prog Tryz.tab cnPc cnPb _ _
 exact Gets.endAll Tryz.tabOk z0s j0i
end Go.Proofs
