/-
  The same, a proposal (2).
-/
import Derived.Test.YtdnkpdgncgjilaaGreatDoorNPwA
set_option linter.unusedSimpArgs false
set_option linter.unusedVariables false
namespace Go.Proofs
open Go.Sx
set_option maxRecDepth 1000000
set_option maxHeartbeats 0
noncomputable def q1j : Heap := ⟨1888, (cN (cN (cN (cN (cN (cN k5K hv7 k5M) none k5P) hv0 (cN k5Q none (cN z9T hv99 k5R))) none (cN (cN k5S none (cN z9T hv16 k5T)) none k5V)) none (cN (cN (cN k5X none (cN k5Z hv16 k6b)) none k6e) none (cN (cN (cN (cN .e none (cN (cN .e none k6f) none (cL hv24))) hv16 (cN k6g none .e)) none (cN k6j hv16 q4O)) none (cN k6k hv50 (cN j4L none (cN (cN j9E hv16 .e) none j4f)))))) none (cN (cN (cN (cN k6n none (cN k6o hv57 (cN (cN k5N none k3J) none (cL hv58)))) none k6p) hv1 (cN (cN (cN (cN .e none (cN j9C hv65 (cL hv66))) hv16 k6s) none (cN z9T hv67 k6t)) none (cN k6u hv16 (cN j4L none (cN (cN j9I hv74 .e) none (cL hv16)))))) hv2 (cN (cN (cN (cN k6v k6w (cN q9M none (cL hv66))) none k6x) none k6y) hv3 (cN (cN k6z hv95 (cN j4M k3O k6A)) none k6B))))⟩
noncomputable def q1k : Heap := ⟨2275, (cN (cN (cN (cN (cN (cN k5K hv7 (cN .e none (cN k5L none q7K))) none k5P) hv0 (cN k5Q none (cN z9T k3P k5R))) none (cN (cN k5S none (cN z9T j4j k5T)) none k5V)) none (cN (cN (cN k5X none (cN k5Z j4k k6b)) none k6e) none (cN (cN (cN (cN .e none (cN (cN k3T none k6f) none (cL hv24))) hv16 (cN k6g none q9E)) none (cN k6j z2D q4O)) none (cN k6k hv50 (cN j4L none (cN (cN j9E q7L .e) none j4f)))))) none (cN (cN (cN (cN k6n none (cN k6o hv57 (cN k5O none (cL hv58)))) none k6p) hv1 (cN (cN (cN (cN .e none (cN j9C j4m (cL hv66))) hv16 k6s) none (cN z9T j4n k6t)) none (cN k6u hv16 (cN j4L none (cN (cN j9I q9F .e) none (cL hv16)))))) hv2 (cN (cN (cN (cN k6v k6w (cN q9M none (cN .e hv66 (cN (cN (cN (cL (some (.cells 360 false [cI 0, cI 11, cI 1, cI 7, cI 0, cI 0, cI 0, .str [], cI 0, cI 0, .str [], .str [], cI 0, .str [100], cI 0, cI 0, .slice 2149 0 1 true 0, cI 0, cI 0, cI 0, cI 0, cF, cI 0, cI 0, .str [], cI 0, cI 0, .str []]))) none .e) none .e) none .e)))) none k6x) none k6y) hv3 (cN (cN k6z hv95 (cN j4M j8T k6A)) none k6B))))⟩
noncomputable def q1l : List AV := [.ptr 59 0, .agg [cI 11, cI 1, cI 7, cI 0, cI 0, cI 0, .str [], cI 0, cI 0, .str [], .str [], cI 0, .str [100], cI 0, cI 0, .slice 1825 0 1 false 1, cI 0, cI 0, cI 0, cI 0, cF, cI 0, cI 0, .str []]]
noncomputable def q1m : AV := .tuple [cI 0, cZ, .slice 2274 0 1 true 0, cI 0]
end Go.Proofs
namespace Go.Proofs
open Go.Sx
set_option maxRecDepth 1000000
set_option maxHeartbeats 0
theorem j0h : endAll Tryz.tab Tryz.f124.results.toList q1m q1k (z0u cnPb (fnsO Tryz.tab z1a 2000) Tryz.tab cnPc ⟨z4v q1l, q1j, []⟩) = true := by kernel_rfl
theorem j5j : CallTo Tryz.prog Tryz.tab 124 q1l q1j [(q1m, q1k)] := by
 refine z2Q Tryz.tabOk Tryz.func124 rfl (by kernel_rfl) ?_
 show Gets Tryz.prog Tryz.tab cnPc cnPb _ _
 exact Gets.endAll Tryz.tabOk z0s j0h
end Go.Proofs
