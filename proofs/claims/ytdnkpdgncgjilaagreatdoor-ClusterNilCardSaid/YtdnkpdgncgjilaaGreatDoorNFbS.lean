/-
  No function of the program starts a goroutine, in pieces.
-/
import Derived.Test.YtdnkpdgncgjilaaGreatDoorNFbF
import Derived.Test.YtdnkpdgncgjilaaGreatDoorNSxTab
import Derived.Test.YtdnkpdgncgjilaaGreatDoorRows
import GoSem.ClaimGoes
set_option linter.unusedSimpArgs false
set_option linter.unusedVariables false
namespace Go.Proofs.YtdnkpdgncgjilaaGreatDoor
open Go Go.Sx
set_option maxRecDepth 100000
noncomputable def z3U (k : Nat) : Bool := !((Tryz.prog.funcs[k]?).any Func.goes)
theorem w8g : ((List.range' 0 112).all z3U) = true := by kernel_rfl
theorem w8h : ((List.range' 112 112).all z3U) = true := by kernel_rfl
theorem w8i : ((List.range' 224 112).all z3U) = true := by kernel_rfl
theorem w8j : ((List.range' 336 112).all z3U) = true := by kernel_rfl
theorem w8k : ((List.range' 448 112).all z3U) = true := by kernel_rfl
theorem w8l : ((List.range' 560 112).all z3U) = true := by kernel_rfl
theorem w8m : ((List.range' 672 112).all z3U) = true := by kernel_rfl
theorem w8n : ((List.range' 784 111).all z3U) = true := by kernel_rfl
theorem k3C (t : Nat) (ht : t < 895) : z3U t = true := by
 by_cases h0 : t < 112
 ·exact z0i w8g t (by omega) (by omega)
 by_cases h1 : t < 224
 ·exact z0i w8h t (by omega) (by omega)
 by_cases h2 : t < 336
 ·exact z0i w8i t (by omega) (by omega)
 by_cases h3 : t < 448
 ·exact z0i w8j t (by omega) (by omega)
 by_cases h4 : t < 560
 ·exact z0i w8k t (by omega) (by omega)
 by_cases h5 : t < 672
 ·exact z0i w8l t (by omega) (by omega)
 by_cases h6 : t < 784
 ·exact z0i w8m t (by omega) (by omega)
 exact z0i w8n t (by omega) (by omega)
theorem j8D {P : Program} {N : Nat} (hs : P.funcs.size = N) (h : ∀ k, k < N → (P.funcs[k]?).any Func.goes = false) (f : FuncId) : P.goes f = false := by
 have h' : ∀ k, (P.funcs[k]?).any Func.goes = false := fun k => by
  by_cases hk : k < N
  ·exact h k hk
  ·rw [Array.getElem?_eq_none (by omega)]; rfl
 unfold Program.goes
 have h1 : ((P.closure f).any fun g => (P.funcs[g]?).any Func.goes) = false := List.any_eq_false.2 fun g _ => by rw [h' g]; simp
 have h2 : P.funcs.any Func.goes = false := Array.any_eq_false.2 fun i hi => by
  have := h' i
  rw [Array.getElem?_eq_getElem hi] at this
  simpa using this
 rw [h1, h2, Bool.and_false]; rfl
theorem q4M {P : Program} {n : String} {f : FuncId} (h : P.funcNamed n = some f) (hg : P.goes f = false) : P.goesAt .entering n = false := by
 unfold Program.goesAt Program.goesFrom
 rw [h]
 show (P.goes f || false) = false
 rw [hg]; rfl
theorem k3D : Tryz.prog.goesAt .entering "skald/skaldlaw40.ClusterNil" = false := q4M fbNLaw (j8D fbNS (fun k hk => by have := k3C k hk; unfold z3U at this; simpa using this) 3)
theorem fbC3 : false = Rows.clusterNilRow.goesBy Tryz.pinned.checked.prog := k3D.symm
end Go.Proofs.YtdnkpdgncgjilaaGreatDoor
