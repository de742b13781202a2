/-
  No function of the program starts a goroutine, in pieces.
-/
import Derived.Test.YtnhnepmjdgfelaaGreatDoorFbF
import Derived.Test.YtnhnepmjdgfelaaGreatDoorSxTab
import Derived.Test.YtnhnepmjdgfelaaGreatDoorRows
import GoSem.ClaimGoes
set_option linter.unusedSimpArgs false
set_option linter.unusedVariables false
namespace Go.Proofs.YtnhnepmjdgfelaaGreatDoor
open Go Go.Sx
set_option maxRecDepth 100000
noncomputable def fnStays (k : Nat) : Bool := !((Tryz.prog.funcs[k]?).any Func.goes)
theorem fbGo0 : ((List.range' 0 116).all fnStays) = true := by kernel_rfl
theorem fbGo1 : ((List.range' 116 116).all fnStays) = true := by kernel_rfl
theorem fbGo2 : ((List.range' 232 116).all fnStays) = true := by kernel_rfl
theorem fbGo3 : ((List.range' 348 116).all fnStays) = true := by kernel_rfl
theorem fbGo4 : ((List.range' 464 116).all fnStays) = true := by kernel_rfl
theorem fbGo5 : ((List.range' 580 116).all fnStays) = true := by kernel_rfl
theorem fbGo6 : ((List.range' 696 116).all fnStays) = true := by kernel_rfl
theorem fbGo7 : ((List.range' 812 113).all fnStays) = true := by kernel_rfl
theorem fbStay (t : Nat) (ht : t < 925) : fnStays t = true := by
 by_cases h0 : t < 116
 ·exact range_all fbGo0 t (by omega) (by omega)
 by_cases h1 : t < 232
 ·exact range_all fbGo1 t (by omega) (by omega)
 by_cases h2 : t < 348
 ·exact range_all fbGo2 t (by omega) (by omega)
 by_cases h3 : t < 464
 ·exact range_all fbGo3 t (by omega) (by omega)
 by_cases h4 : t < 580
 ·exact range_all fbGo4 t (by omega) (by omega)
 by_cases h5 : t < 696
 ·exact range_all fbGo5 t (by omega) (by omega)
 by_cases h6 : t < 812
 ·exact range_all fbGo6 t (by omega) (by omega)
 exact range_all fbGo7 t (by omega) (by omega)
theorem goes_mk {P : Program} {N : Nat} (hs : P.funcs.size = N) (h : ∀ k, k < N → (P.funcs[k]?).any Func.goes = false) (f : FuncId) : P.goes f = false := by
 have h' : ∀ k, (P.funcs[k]?).any Func.goes = false := fun k => by
  by_cases hk : k < N
  ·exact h k hk
  ·rw [Array.getElem?_eq_none (by omega)]; rfl
 unfold Program.goes
 have h1 : ((P.closure f).any fun g => (P.funcs[g]?).any Func.goes) = false := List.any_eq_false.2 fun g _ => by rw [h' g]; simp
 have h2 : P.funcs.any Func.goes = false := Array.any_eq_false.2 fun i hi => by
  have := h' i
  rw [Array.getElem?_eq_getElem hi] at this
  simpa using this
 rw [h1, h2, Bool.and_false]; rfl
theorem goesFrom_mk {P : Program} {n : String} {f : FuncId} (h : P.funcNamed n = some f) (hg : P.goes f = false) : P.goesAt .entering n = false := by
 unfold Program.goesAt Program.goesFrom
 rw [h]
 show (P.goes f || false) = false
 rw [hg]; rfl
theorem fbGoes : Tryz.prog.goesAt .entering "skald/skaldlaw42.PlayRandoms" = false := goesFrom_mk fbNLaw (goes_mk fbNS (fun k hk => by have := fbStay k hk; unfold fnStays at this; simpa using this) 3)
theorem fbC3 : false = Rows.playRandomsRow.goesBy Tryz.pinned.checked.prog := fbGoes.symm
end Go.Proofs.YtnhnepmjdgfelaaGreatDoor
