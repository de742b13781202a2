/-
  No function of the program starts a goroutine, in pieces.
-/
import Derived.Test.YthfkhidmeeajfaaGreatDoorLFbF
import Derived.Test.YthfkhidmeeajfaaGreatDoorLSxTab
import Derived.Test.YthfkhidmeeajfaaGreatDoorRows
import GoSem.ClaimGoes
set_option linter.unusedSimpArgs false
set_option linter.unusedVariables false
namespace Go.Proofs.YthfkhidmeeajfaaGreatDoor
open Go Go.Sx
set_option maxRecDepth 100000
noncomputable def z4G (k : Nat) : Bool := !((Tryz.prog.funcs[k]?).any Func.goes)
theorem k8L : ((List.range' 0 117).all z4G) = true := by kernel_rfl
theorem k8M : ((List.range' 117 117).all z4G) = true := by kernel_rfl
theorem k8N : ((List.range' 234 117).all z4G) = true := by kernel_rfl
theorem k8O : ((List.range' 351 117).all z4G) = true := by kernel_rfl
theorem k8P : ((List.range' 468 117).all z4G) = true := by kernel_rfl
theorem k8Q : ((List.range' 585 117).all z4G) = true := by kernel_rfl
theorem k8R : ((List.range' 702 117).all z4G) = true := by kernel_rfl
theorem k8S : ((List.range' 819 112).all z4G) = true := by kernel_rfl
theorem k3K (t : Nat) (ht : t < 931) : z4G t = true := by
 by_cases h0 : t < 117
 ·exact z0p k8L t (by omega) (by omega)
 by_cases h1 : t < 234
 ·exact z0p k8M t (by omega) (by omega)
 by_cases h2 : t < 351
 ·exact z0p k8N t (by omega) (by omega)
 by_cases h3 : t < 468
 ·exact z0p k8O t (by omega) (by omega)
 by_cases h4 : t < 585
 ·exact z0p k8P t (by omega) (by omega)
 by_cases h5 : t < 702
 ·exact z0p k8Q t (by omega) (by omega)
 by_cases h6 : t < 819
 ·exact z0p k8R t (by omega) (by omega)
 exact z0p k8S t (by omega) (by omega)
theorem k0G {P : Program} {N : Nat} (hs : P.funcs.size = N) (h : ∀ k, k < N → (P.funcs[k]?).any Func.goes = false) (f : FuncId) : P.goes f = false := by
 have h' : ∀ k, (P.funcs[k]?).any Func.goes = false := fun k => by
  by_cases hk : k < N
  ·exact h k hk
  ·rw [Array.getElem?_eq_none (by omega)]; rfl
 unfold Program.goes
 have h1 : ((P.closure f).any fun g => (P.funcs[g]?).any Func.goes) = false := List.any_eq_false.2 fun g _ => by rw [h' g]; simp
 have h2 : P.funcs.any Func.goes = false := Array.any_eq_false.2 fun i hi => by
  have := h' i
  rw [Array.getElem?_eq_getElem hi] at this
  simpa using this
 rw [h1, h2, Bool.and_false]; rfl
theorem q5Y {P : Program} {n : String} {f : FuncId} (h : P.funcNamed n = some f) (hg : P.goes f = false) : P.goesAt .entering n = false := by
 unfold Program.goesAt Program.goesFrom
 rw [h]
 show (P.goes f || false) = false
 rw [hg]; rfl
theorem k3L : Tryz.prog.goesAt .entering "skald/skaldlaw42.PlayLines" = false := q5Y fbNLaw (k0G fbNS (fun k hk => by have := k3K k hk; unfold z4G at this; simpa using this) 4)
theorem fbC3 : false = Rows.playLinesRow.goesBy Tryz.pinned.checked.prog := k3L.symm
end Go.Proofs.YthfkhidmeeajfaaGreatDoor
