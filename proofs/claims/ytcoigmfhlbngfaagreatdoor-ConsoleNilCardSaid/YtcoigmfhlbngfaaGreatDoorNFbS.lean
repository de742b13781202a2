/-
  No function of the program starts a goroutine, in pieces.
-/
import Derived.Test.YtcoigmfhlbngfaaGreatDoorNFbF
import Derived.Test.YtcoigmfhlbngfaaGreatDoorNSxTab
import Derived.Test.YtcoigmfhlbngfaaGreatDoorRows
import GoSem.ClaimGoes
set_option linter.unusedSimpArgs false
set_option linter.unusedVariables false
namespace Go.Proofs.YtcoigmfhlbngfaaGreatDoor
open Go Go.Sx
set_option maxRecDepth 100000
noncomputable def z3M (k : Nat) : Bool := !((Tryz.prog.funcs[k]?).any Func.goes)
theorem k2W : ((List.range' 0 137).all z3M) = true := by kernel_rfl
theorem k2X : ((List.range' 137 137).all z3M) = true := by kernel_rfl
theorem k2Y : ((List.range' 274 137).all z3M) = true := by kernel_rfl
theorem k2Z : ((List.range' 411 137).all z3M) = true := by kernel_rfl
theorem k3a : ((List.range' 548 137).all z3M) = true := by kernel_rfl
theorem k3b : ((List.range' 685 137).all z3M) = true := by kernel_rfl
theorem k3c : ((List.range' 822 137).all z3M) = true := by kernel_rfl
theorem k3d : ((List.range' 959 136).all z3M) = true := by kernel_rfl
theorem j9i (t : Nat) (ht : t < 1095) : z3M t = true := by
 by_cases h0 : t < 137
 ·exact z0g k2W t (by omega) (by omega)
 by_cases h1 : t < 274
 ·exact z0g k2X t (by omega) (by omega)
 by_cases h2 : t < 411
 ·exact z0g k2Y t (by omega) (by omega)
 by_cases h3 : t < 548
 ·exact z0g k2Z t (by omega) (by omega)
 by_cases h4 : t < 685
 ·exact z0g k3a t (by omega) (by omega)
 by_cases h5 : t < 822
 ·exact z0g k3b t (by omega) (by omega)
 by_cases h6 : t < 959
 ·exact z0g k3c t (by omega) (by omega)
 exact z0g k3d t (by omega) (by omega)
theorem j5T {P : Program} {N : Nat} (hs : P.funcs.size = N) (h : ∀ k, k < N → (P.funcs[k]?).any Func.goes = false) (f : FuncId) : P.goes f = false := by
 have h' : ∀ k, (P.funcs[k]?).any Func.goes = false := fun k => by
  by_cases hk : k < N
  ·exact h k hk
  ·rw [Array.getElem?_eq_none (by omega)]; rfl
 unfold Program.goes
 have h1 : ((P.closure f).any fun g => (P.funcs[g]?).any Func.goes) = false := List.any_eq_false.2 fun g _ => by rw [h' g]; simp
 have h2 : P.funcs.any Func.goes = false := Array.any_eq_false.2 fun i hi => by
  have := h' i
  rw [Array.getElem?_eq_getElem hi] at this
  simpa using this
 rw [h1, h2, Bool.and_false]; rfl
theorem q4l {P : Program} {n : String} {f : FuncId} (h : P.funcNamed n = some f) (hg : P.goes f = false) : P.goesAt .entering n = false := by
 unfold Program.goesAt Program.goesFrom
 rw [h]
 show (P.goes f || false) = false
 rw [hg]; rfl
theorem j9j : Tryz.prog.goesAt .entering "skald/skaldlaw47.ConsoleNil" = false := q4l fbNLaw (j5T fbNS (fun k hk => by have := j9i k hk; unfold z3M at this; simpa using this) 3)
theorem fbC3 : false = Rows.consoleNilRow.goesBy Tryz.pinned.checked.prog := j9j.symm
end Go.Proofs.YtcoigmfhlbngfaaGreatDoor
