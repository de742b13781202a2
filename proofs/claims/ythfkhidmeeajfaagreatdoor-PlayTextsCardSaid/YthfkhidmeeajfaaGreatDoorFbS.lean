/-
  No function of the program starts a goroutine, in pieces.
-/
import Derived.Test.YthfkhidmeeajfaaGreatDoorFbF
import Derived.Test.YthfkhidmeeajfaaGreatDoorSxTab
import Derived.Test.YthfkhidmeeajfaaGreatDoorRows
import GoSem.ClaimGoes
set_option linter.unusedSimpArgs false
set_option linter.unusedVariables false
namespace Go.Proofs.YthfkhidmeeajfaaGreatDoor
open Go Go.Sx
set_option maxRecDepth 100000
noncomputable def z4X (k : Nat) : Bool := !((Tryz.prog.funcs[k]?).any Func.goes)
theorem w0x : ((List.range' 0 117).all z4X) = true := by kernel_rfl
theorem w0y : ((List.range' 117 117).all z4X) = true := by kernel_rfl
theorem w0z : ((List.range' 234 117).all z4X) = true := by kernel_rfl
theorem w0A : ((List.range' 351 117).all z4X) = true := by kernel_rfl
theorem w0B : ((List.range' 468 117).all z4X) = true := by kernel_rfl
theorem w0C : ((List.range' 585 117).all z4X) = true := by kernel_rfl
theorem w0D : ((List.range' 702 117).all z4X) = true := by kernel_rfl
theorem w0E : ((List.range' 819 112).all z4X) = true := by kernel_rfl
theorem k5i (t : Nat) (ht : t < 931) : z4X t = true := by
 by_cases h0 : t < 117
 ·exact z0t w0x t (by omega) (by omega)
 by_cases h1 : t < 234
 ·exact z0t w0y t (by omega) (by omega)
 by_cases h2 : t < 351
 ·exact z0t w0z t (by omega) (by omega)
 by_cases h3 : t < 468
 ·exact z0t w0A t (by omega) (by omega)
 by_cases h4 : t < 585
 ·exact z0t w0B t (by omega) (by omega)
 by_cases h5 : t < 702
 ·exact z0t w0C t (by omega) (by omega)
 by_cases h6 : t < 819
 ·exact z0t w0D t (by omega) (by omega)
 exact z0t w0E t (by omega) (by omega)
theorem k1U {P : Program} {N : Nat} (hs : P.funcs.size = N) (h : ∀ k, k < N → (P.funcs[k]?).any Func.goes = false) (f : FuncId) : P.goes f = false := by
 have h' : ∀ k, (P.funcs[k]?).any Func.goes = false := fun k => by
  by_cases hk : k < N
  ·exact h k hk
  ·rw [Array.getElem?_eq_none (by omega)]; rfl
 unfold Program.goes
 have h1 : ((P.closure f).any fun g => (P.funcs[g]?).any Func.goes) = false := List.any_eq_false.2 fun g _ => by rw [h' g]; simp
 have h2 : P.funcs.any Func.goes = false := Array.any_eq_false.2 fun i hi => by
  have := h' i
  rw [Array.getElem?_eq_getElem hi] at this
  simpa using this
 rw [h1, h2, Bool.and_false]; rfl
theorem q6W {P : Program} {n : String} {f : FuncId} (h : P.funcNamed n = some f) (hg : P.goes f = false) : P.goesAt .entering n = false := by
 unfold Program.goesAt Program.goesFrom
 rw [h]
 show (P.goes f || false) = false
 rw [hg]; rfl
theorem k5j : Tryz.prog.goesAt .entering "skald/skaldlaw42.PlayTexts" = false := q6W fbNLaw (k1U fbNS (fun k hk => by have := k5i k hk; unfold z4X at this; simpa using this) 3)
theorem fbC3 : false = Rows.playTextsRow.goesBy Tryz.pinned.checked.prog := k5j.symm
end Go.Proofs.YthfkhidmeeajfaaGreatDoor
